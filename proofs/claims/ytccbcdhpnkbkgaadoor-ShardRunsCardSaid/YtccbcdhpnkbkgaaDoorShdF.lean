/-
  A shard under way: where a sender's line is, its line, and one put in its place.
-/
import Derived.Test.YtccbcdhpnkbkgaaDoorGS
import Derived.Test.YtccbcdhpnkbkgaaDoorInsL
import Derived.Test.YtccbcdhpnkbkgaaDoorVCallM
set_option linter.unusedVariables false
set_option linter.unusedSimpArgs false
namespace Go.Proofs.YtccbcdhpnkbkgaaDoor
open Go Go.RowKit
set_option linter.unusedVariables false
set_option linter.unusedSimpArgs false
set_option linter.unusedSectionVars false
open Classical

theorem idx_fd (ls : List Ln) (o : List UInt8) : ls.findIdx (fun l => !decide (Ahd l.own o)) = fdC (lls ls) o := by
  unfold fdC lls
  rw [List.findIdx_map]
  rfl
noncomputable def isC (cs : List LC) (o : List UInt8) : Bool := decide (∃ hk : fdC cs o < cs.length, cs[fdC cs o].1 = o)
abbrev partB (gp : Nat) (a : Option Addr) (c : Nat) (ms : List Ln) : Asn := blk gp 83 [.slice a ms.length c]
theorem sfind1_vc (w0 : World) (L : List Asn) (g : Nat) (o : List UInt8) (ho : o.length = 32) (l : Ln) (hl : l.own.length = 32) {i : Nat} [hb : HasBlk L g i 27 (bvs o)] :
    VC Tryd.prog w0 108 [.agg l.cells.toArray, .pointer (some ⟨g, 0, none⟩)] L fun v L' => v = .bool (!decide (Ahd l.own o)) ∧ L' = L := by
  have f0 := Ln.f0 hl
  have hcl := Ln.len hl
  refine vc_ent ?_
  refine vc_in rfl rfl ?_
  generalize l.cells = cs at *
  repeat' (first | (refine go1 ?_; intros) | ((first | refine vl_caseG rfl rfl rfl rfl ?_ ?_ | refine v_cond rfl ?_ ?_) <;> (intro hb; (try simp only [hq1, hq2, hq3, hq4, ne_eq, hq5, hq6, hq7, hq8] at hb); try (exfalso; omega))) | fail)
  refine vl_o rfl (vo_call rfl rfl ?_)
  refine vc_mono (ahead_vc w0 _ l.own o hl ho) ?_
  rintro v L' ⟨rfl, rfl⟩
  repeat' (first | (refine go1 ?_; intros) | ((first | refine vl_caseG rfl rfl rfl rfl ?_ ?_ | refine v_cond rfl ?_ ?_) <;> (intro hb; (try simp only [hq1, hq2, hq3, hq4, ne_eq, hq5, hq6, hq7, hq8] at hb); try (exfalso; omega))) | fail)
  exact ⟨_, sei _ _ L, rfl, rfl⟩
set_option maxRecDepth 100000 in
set_option maxHeartbeats 1000000 in
theorem sfind_vc (w0 : World) (L : List Asn) (gp : Nat) (a : Option Addr) (c : Nat) (ms : List Ln) (o : List UInt8) (h : LsOk ms) (ho : o.length = 32) {i : Nat} [hp : HasBlk L gp i 83 [.slice a ms.length c]] [hr : RdC w0 L a (lnc ms)] :
    VC Tryd.prog w0 76 [.pointer (some ⟨gp, 0, none⟩), .agg (bvs o).toArray] L fun v L' => v = .tuple #[.int .i64 (fdC (lls ms) o : Nat), .bool (isC (lls ms) o)] ∧ L' = L := by
  have hle := fdC_le (lls ms) o
  rw [List.length_map] at hle
  refine vc_ent ?_
  refine vc_in rfl rfl ?_
  repeat' (first | (refine go1 ?_; intros) | ((first | refine vl_caseG rfl rfl rfl rfl ?_ ?_ | refine v_cond rfl ?_ ?_) <;> (intro hb; (try simp only [hq1, hq2, hq3, hq4, ne_eq, hq5, hq6, hq7, hq8] at hb); try (exfalso; omega))) | fail)
  refine vl_o rfl (vo_call rfl rfl ?_)
  refine vc_mono (idxF_vc w0 _ a c ms 108 _ (fun l => !decide (Ahd l.own o)) rfl h (fun l hl => sfind1_vc w0 _ _ o ho l (h.ok l hl).own)) ?_
  rintro v L' ⟨rfl, rfl⟩
  unfold idxI
  rw [idx_fd]
  by_cases hlt : fdC (lls ms) o < ms.length
  · rw [if_pos hlt]
    have he := h.e0 _ hlt
    have hpos := h.pos _ hlt
    have hol := (h.at _ hlt).own
    have hq : (∃ hk : fdC (lls ms) o < (lls ms).length, (lls ms)[fdC (lls ms) o].1 = o) ↔ ms[fdC (lls ms) o].own = o := by
      constructor
      · rintro ⟨hk, e⟩
        rw [List.getElem_map] at e
        exact e
      · intro e
        exact ⟨by rw [List.length_map]; exact hlt, by rw [List.getElem_map]; exact e⟩
    have hisq : isC (lls ms) o = decide (ms[fdC (lls ms) o].own = o) := by unfold isC; exact decide_eq_decide.2 hq
    rw [hisq]
    clear hisq hq
    generalize ms[fdC (lls ms) o].own = q at *
    generalize fdC (lls ms) o = k at *
    repeat' (first | (refine go1 ?_; intros) | ((first | refine vl_caseG rfl rfl rfl rfl ?_ ?_ | refine v_cond rfl ?_ ?_) <;> (intro hb; (try simp only [hq1, hq2, hq3, hq4, ne_eq, hq5, hq6, hq7, hq8] at hb); try (exfalso; omega))) | fail)
    all_goals first | (exfalso; omega) | skip
    (refine v_draw0 [] (by kernel_rfl) ?_ <;> (refine va_takeA 0 rfl rfl rfl rfl ?_) <;> (refine va_takeA 1 rfl rfl rfl rfl ?_) <;> (refine va_takeA 2 rfl rfl rfl rfl ?_) <;> (refine va_takeA 3 rfl rfl rfl rfl ?_) <;> (refine va_takeA 4 rfl rfl rfl rfl ?_) <;> (refine va_takeA 5 rfl rfl rfl rfl ?_) <;> (refine va_takeA 6 rfl rfl rfl rfl ?_) <;> (refine va_takeA 7 rfl rfl rfl rfl ?_) <;> (refine va_takeA 8 rfl rfl rfl rfl ?_) <;> (refine va_takeA 9 rfl rfl rfl rfl ?_) <;> (refine va_takeA 10 rfl rfl rfl rfl ?_) <;> (refine va_takeA 11 rfl rfl rfl rfl ?_) <;> (refine va_takeA 12 rfl rfl rfl rfl ?_) <;> (refine va_takeA 13 rfl rfl rfl rfl ?_) <;> (refine va_done (by kernel_rfl) ?_))
    repeat' (first | (refine go1 ?_; intros) | ((first | refine vl_caseG rfl rfl rfl rfl ?_ ?_ | refine v_cond rfl ?_ ?_) <;> (intro hb; (try simp only [hq1, hq2, hq3, hq4, ne_eq, hq5, hq6, hq7, hq8] at hb); try (exfalso; omega))) | fail)
    exact ⟨_, sei _ _ L, rfl, rfl⟩
  · rw [if_neg hlt]
    have hq : isC (lls ms) o = false := decide_eq_false (fun ⟨hk, _⟩ => hlt (by rwa [List.length_map] at hk))
    rw [hq, show fdC (lls ms) o = ms.length by omega]
    repeat' (first | (refine go1 ?_; intros) | ((first | refine vl_caseG rfl rfl rfl rfl ?_ ?_ | refine v_cond rfl ?_ ?_) <;> (intro hb; (try simp only [hq1, hq2, hq3, hq4, ne_eq, hq5, hq6, hq7, hq8] at hb); try (exfalso; omega))) | fail)
    exact ⟨_, sei _ _ L, rfl, rfl⟩
theorem lineC_lls {ms : List Ln} (hs : Srt2 (lls ms)) {o : List UInt8} (h : isC (lls ms) o = true) : ∃ hk : fdC (lls ms) o < ms.length, ms[fdC (lls ms) o].own = o ∧ ms[fdC (lls ms) o].xs = lineC (lls ms) o := by
  obtain ⟨hk, e⟩ := of_decide_eq_true h
  have hk' : fdC (lls ms) o < ms.length := by rwa [List.length_map] at hk
  refine ⟨hk', ?_, ?_⟩
  · rw [List.getElem_map] at e
    exact e
  · rw [lineC_some hs hk e, List.getElem_map]
    rfl
theorem lineC_nil {ms : List Ln} (h : LsOk ms) (hs : Srt2 (lls ms)) {o : List UInt8} (ho : o.length = 32) (hi : isC (lls ms) o = false) : lineC (lls ms) o = [] ∧ ∀ j (hj : j < ms.length), ms[j].own ≠ o := by
  have hk' : ∀ hk : fdC (lls ms) o < (lls ms).length, (lls ms)[fdC (lls ms) o].1 ≠ o := fun a b => of_decide_eq_false hi ⟨a, b⟩
  have := (fdC_no hs h.k2 ho hk').2
  refine ⟨lineC_none this, fun j hj e => this j (by rwa [List.length_map]) ?_⟩
  rw [List.getElem_map]
  exact e
theorem fill_line {o : List UInt8} (ho : o.length = 32) : fillS [(0, 32), (32, 1)] (bvs (List.replicate 32 0) ++ [.slice none 0 0]) [(0, bvs o)] = (Ln.mk o none 0 []).cells := by
  simp [fillS, splice, ho, Ln.cells, List.drop_append, List.drop_of_length_le, List.take_append]
set_option maxRecDepth 100000 in
set_option maxHeartbeats 1000000 in
theorem sline_vc (w0 : World) (L : List Asn) (gp : Nat) (a : Option Addr) (c : Nat) (ms : List Ln) (o : List UInt8) (h : LsOk ms) (hs : Srt2 (lls ms)) (ho : o.length = 32) {i : Nat} [hp : HasBlk L gp i 83 [.slice a ms.length c]] [hr : RdC w0 L a (lnc ms)] :
    VC Tryd.prog w0 44 [.pointer (some ⟨gp, 0, none⟩), .agg (bvs o).toArray] L fun v L' => ∃ l : Ln, v = .agg l.cells.toArray ∧ l.own = o ∧ l.xs = lineC (lls ms) o ∧ (l ∈ ms ∨ l.a = none ∧ l.xs = []) ∧ L' = L := by
  refine vc_ent ?_
  refine vc_in rfl rfl ?_
  repeat' (first | (refine go1 ?_; intros) | ((first | refine vl_caseG rfl rfl rfl rfl ?_ ?_ | refine v_cond rfl ?_ ?_) <;> (intro hb; (try simp only [hq1, hq2, hq3, hq4, ne_eq, hq5, hq6, hq7, hq8] at hb); try (exfalso; omega))) | fail)
  refine vl_o rfl (vo_call rfl rfl ?_)
  refine vc_mono (sfind_vc w0 _ gp a c ms o h ho) ?_
  rintro v L' ⟨rfl, rfl⟩
  cases hi : isC (lls ms) o
  · repeat' (first | (refine goB ?_; intros) | ((first | refine vl_caseG rfl rfl rfl rfl ?_ ?_ | refine v_cond rfl ?_ ?_) <;> (intro hb; (try simp only [hq1, hq2, hq3, hq4, ne_eq, hq5, hq6, hq7, hq8] at hb); try (exfalso; omega))) | fail)
    have hzl : (Ln.mk o none 0 []).cells.length = 33 := Ln.len ho
    haveI hzo : OC (Ln.mk o none 0 []).cells := oc_ln _
    refine vl_q rfl rfl rfl rfl (vq_buildP (cs := (Ln.mk o none 0 []).cells) rfl (by simp [okS, Value.cells, ho]) (fill_line ho)) ?_
    generalize hzc : (Ln.mk o none 0 []).cells = zc at *
    repeat' (first | (refine go1 ?_; intros) | ((first | refine vl_caseG rfl rfl rfl rfl ?_ ?_ | refine v_cond rfl ?_ ?_) <;> (intro hb; (try simp only [hq1, hq2, hq3, hq4, ne_eq, hq5, hq6, hq7, hq8] at hb); try (exfalso; omega))) | fail)
    exact ⟨_, sei _ _ L, ⟨o, none, 0, []⟩, by rw [hzc], rfl, (lineC_nil h hs ho hi).1.symm, .inr ⟨rfl, rfl⟩, rfl⟩
  · obtain ⟨hk, e1, e2⟩ := lineC_lls hs hi
    have he := h.e _ hk
    have hpos := h.pos _ hk
    have hcl := Ln.len (h.at _ hk).own
    haveI hoc : OC ms[fdC (lls ms) o].cells := oc_ln _
    obtain ⟨l, hl⟩ : ∃ l, l = ms[fdC (lls ms) o] := ⟨_, rfl⟩
    rw [← hl] at he hcl hoc e1 e2
    have hmem : l ∈ ms := by rw [hl]; exact List.getElem_mem hk
    generalize fdC (lls ms) o = k at *
    obtain ⟨cs, hcs⟩ : ∃ cs, cs = l.cells := ⟨_, rfl⟩
    rw [← hcs] at he hcl hoc
    repeat' (first | (refine go1 ?_; intros) | ((first | refine vl_caseG rfl rfl rfl rfl ?_ ?_ | refine v_cond rfl ?_ ?_) <;> (intro hb; (try simp only [hq1, hq2, hq3, hq4, ne_eq, hq5, hq6, hq7, hq8] at hb); try (exfalso; omega))) | fail)
    exact ⟨_, sei _ _ L, l, by rw [hcs], e1, e2, .inl hmem, rfl⟩
/-- All lines but a sender's. -/
def offL (ms : List Ln) (o : List UInt8) : List Ln := ms.filter fun l => decide (l.own ≠ o)
theorem offL_no {ms : List Ln} {o : List UInt8} (h : ∀ j (hj : j < ms.length), ms[j].own ≠ o) : offL ms o = ms := by
  unfold offL
  rw [List.filter_eq_self]
  intro l hl
  obtain ⟨j, hj, rfl⟩ := List.getElem_of_mem hl
  exact decide_eq_true (h j hj)
theorem offL_is {ms : List Ln} (hs : Srt2 (lls ms)) {k : Nat} (hk : k < ms.length) : offL ms ms[k].own = ms.take k ++ ms.drop (k + 1) := by
  have key : ∀ j (hj : j < ms.length), j ≠ k → ms[j].own ≠ ms[k].own := fun j hj hne e => hne (srt2_inj hs (i := j) (j := k) (by rwa [List.length_map]) (by rwa [List.length_map]) (by rw [List.getElem_map, List.getElem_map]; exact e))
  have e : ms = ms.take k ++ (ms[k] :: ms.drop (k + 1)) := by rw [← List.drop_eq_getElem_cons hk, List.take_append_drop]
  obtain ⟨o, ho⟩ : ∃ o, o = ms[k].own := ⟨_, rfl⟩
  rw [← ho]
  unfold offL
  conv => lhs; rw [e]
  rw [List.filter_append, List.filter_cons_of_neg (by rw [ho]; simp), List.filter_eq_self.2, List.filter_eq_self.2]
  · intro l hl
    obtain ⟨j, hj, rfl⟩ := List.getElem_of_mem hl
    rw [List.length_drop] at hj
    rw [List.getElem_drop, ho]
    exact decide_eq_true (key _ (by omega) (by omega))
  · intro l hl
    obtain ⟨j, hj, rfl⟩ := List.getElem_of_mem hl
    rw [List.length_take] at hj
    rw [List.getElem_take, ho]
    exact decide_eq_true (key _ (by omega) (by omega))
theorem lls_take (ms : List Ln) (k : Nat) : lls (ms.take k) = (lls ms).take k := List.map_take
theorem lls_drop (ms : List Ln) (k : Nat) : lls (ms.drop k) = (lls ms).drop k := List.map_drop
theorem lls_app (ms ns : List Ln) : lls (ms ++ ns) = lls ms ++ lls ns := List.map_append
theorem set_perm {ms : List Ln} {k : Nat} (hk : k < ms.length) (l : Ln) : (l :: (ms.take k ++ ms.drop (k + 1))).Perm (ms.set k l) := by
  rw [List.set_eq_take_append_cons_drop, if_pos hk]
  exact List.perm_middle.symm
theorem ins_perm (ms : List Ln) (k : Nat) (l : Ln) : (l :: ms).Perm (ms.take k ++ l :: ms.drop k) := by
  have := (List.perm_middle (a := l) (l₁ := ms.take k) (l₂ := ms.drop k)).symm
  rwa [List.take_append_drop] at this
/-- What holds of a shard under way. -/
abbrev shP (gp : Nat) (a : Option Addr) (c : Nat) (ms : List Ln) (L : List Asn) : List Asn := partB gp a c ms :: ownLs a c ms :: tsA ms :: L
set_option maxRecDepth 100000 in
set_option maxHeartbeats 2000000 in
theorem sset_vc (w0 : World) (L : List Asn) (gp : Nat) (a : Option Addr) (c : Nat) (ms : List Ln) (l : Ln) (h : LsOk ms) (hs : Srt2 (lls ms)) (hl : l.ok) (h5 : ms.length ≤ 999999) :
    VC Tryd.prog w0 46 [.pointer (some ⟨gp, 0, none⟩), .agg l.cells.toArray] (partB gp a c ms :: ownLs a c ms :: ownTs l.a l.c l.xs :: tsA (offL ms l.own) :: L) fun v L' => ∃ a' c' ms', lls ms' = setC (lls ms) l.own l.xs ∧ LsOk ms' ∧ L' = shP gp a' c' ms' L := by
  have ho := hl.own
  have hlen := h.len
  have f0 := Ln.f0 ho
  have f1 := Ln.f1 ho
  have hcl := Ln.len ho
  have hcat := lls_app
  have hle := fdC_le (lls ms) l.own
  rw [List.length_map] at hle
  have hwide := h.wide
  have hll : (lls ms).length = ms.length := List.length_map _
  haveI hoc : OC l.cells := oc_ln _
  obtain ⟨cs, hcs⟩ : ∃ cs, cs = l.cells := ⟨_, rfl⟩
  rw [← hcs] at f0 f1 hcl hoc ⊢
  refine vc_ent ?_
  refine vc_in rfl rfl ?_
  repeat' (first | (refine go1 ?_; intros) | ((first | refine vl_caseG rfl rfl rfl rfl ?_ ?_ | refine v_cond rfl ?_ ?_) <;> (intro hb; (try simp only [hq1, hq2, hq3, hq4, ne_eq, hq5, hq6, hq7, hq8] at hb); try (exfalso; omega))) | fail)
  refine vl_o rfl (vo_callM rfl rfl rfl ?_)
  refine vc_mono (sfind_vc w0 _ gp a c ms l.own h ho) ?_
  rintro v L' ⟨rfl, rfl⟩
  rename_i g3
  cases hi : isC (lls ms) l.own
  · obtain ⟨_, hno⟩ := lineC_nil h hs ho hi
    have hno2 : ∀ hk : fdC (lls ms) l.own < (lls ms).length, (lls ms)[fdC (lls ms) l.own].1 ≠ l.own := fun a b => of_decide_eq_false hi ⟨a, b⟩
    rw [offL_no hno]
    by_cases hx : l.xs = []
    · have e := setC_no0 hs h.k2 ho hno2
      have hx0 : l.xs.length = 0 := by rw [hx]; rfl
      repeat' (first | (refine go1 ?_; intros) | ((first | refine vl_caseG rfl rfl rfl rfl ?_ ?_ | refine v_cond rfl ?_ ?_) <;> (intro hb; (try simp only [hq1, hq2, hq3, hq4, ne_eq, hq5, hq6, hq7, hq8] at hb); try (exfalso; omega))) | fail)
      all_goals first | (exfalso; omega) | skip
      exact ⟨shP gp a c ms L, sei _ _ _, a, c, ms, by rw [hx]; exact e, h, rfl⟩
    · have hx0 : 0 < l.xs.length := Nat.pos_of_ne_zero (fun e => hx (List.eq_nil_of_length_eq_zero e))
      have e := setC_no1 hs h.k2 ho hno2 hx
      obtain ⟨k, hk⟩ : ∃ k, k = fdC (lls ms) l.own := ⟨_, rfl⟩
      rw [← hk] at hle e ⊢
      repeat' (first | (refine go1 ?_; intros) | ((first | refine vl_caseG rfl rfl rfl rfl ?_ ?_ | refine v_cond rfl ?_ ?_) <;> (intro hb; (try simp only [hq1, hq2, hq3, hq4, ne_eq, hq5, hq6, hq7, hq8] at hb); try (exfalso; omega))) | fail)
      all_goals first | (exfalso; omega) | skip
      refine v_draw0 [9, 13] (by kernel_rfl) ?_
      refine va_takeP 0 rfl rfl rfl rfl (by kernel_rfl) (fun _ _ _ _ h => h) (.inl (SE.ent (by repeat' (first | exact SE.refl _ | refine SE.cons _ ?_ | refine SE.trans (se_drop _ _) ?_)) _)) (by (first | exact vq_move rfl | exact vq_assign rfl | (apply vq_isBin; first | exact vq_lt rfl rfl | exact vq_eq rfl rfl | exact vq_ne rfl rfl | (apply vq_isOp .add; exact vq_add rfl rfl (by first | exact wr_add (by omega) | exact wu_add (by omega) | exact wr_id (by omega) (by omega) | rfl)) | (apply vq_isOp .sub; exact vq_minus rfl rfl (by first | exact wr_sub (by omega) (by omega) | exact wu_sub (by omega) (by omega) | exact wr_id (by omega) (by omega) | rfl)) | exact vq_gt rfl rfl | exact vq_le rfl rfl | exact vq_ge rfl rfl | (apply vq_isOp .mul; exact vq_mul rfl rfl (by first | exact wr_mul (by omega) | exact wr_id (by omega) (by omega) | rfl)) | (apply vq_isOp .or; exact vq_or rfl rfl (by rfl)) | (apply vq_isOp .and; exact vq_and rfl rfl (by rfl)) | (apply vq_isOp .xor; exact vq_xor rfl rfl (by rfl)) | (apply vq_isOp .shl; exact vq_shl rfl rfl (by omega) (by rfl)) | (apply vq_isOp .shr; exact vq_shr rfl rfl (by omega) (by rfl)) | (apply vq_isOp .quo; exact vq_quo rfl rfl (by decide) (by first | exact q8_i64 (by omega) | exact q2_u8 (by omega) | exact q4_i64 (by omega) | assumption | rfl)) | (apply vq_isOp .rem; exact vq_rem rfl rfl (by decide) (by first | exact r8 | exact r2 | exact r4 | exact r64 | assumption | rfl)) | exact vq_eqNil rfl rfl | exact vq_eqBool rfl rfl | (apply vq_isOp .eql; exact vq_eqB rfl rfl (by first | assumption | (simp; done)) (by first | assumption | (simp; done))) | (apply vq_isOp .neq; first | exact vq_neBool rfl rfl | exact vq_neB rfl rfl (by first | assumption | (simp; done)) (by first | assumption | (simp; done)))) | (apply vq_isLoad; first | (apply vq_isPt; exact rfl; first | (apply vq_isOne; exact vq_ldB rfl (by first | rfl | assumption)) | (apply vq_isPt0; exact rfl; apply vq_isAgg; exact vq_ldW rfl (by first | rfl | assumption | (simp; done) | (simp; assumption))) | (apply vq_isAgg; exact vq_ldP rfl (by assumption) (by first | assumption | (simp; done) | (simp; assumption)))) | (apply vq_isPtA; exact rfl; first | (apply vq_isOne; exact vq_ld1 rfl (by first | assumption | rfl)) | exact vq_ldA rfl (by assumption) (by first | assumption | (simp; done) | (simp; assumption))) | fail) | exact vq_lenSl rfl | (apply vq_isIx; first | (apply vq_ixSl; exact rfl; exact vq_index rfl rfl (by omega) (by omega) (by first | assumption | (simp; done) | (simp; omega) | (rw [bvs_length]; omega)) (by first | exact ix_1 | exact ix_s _ | rfl)) | (apply vq_ixPt; exact rfl; exact vq_indexArr rfl rfl (by omega) (by omega) (by first | exact ix_1 | exact ix_s _ | rfl)) | exact vq_indexArrA rfl rfl (by first | assumption | (simp; done) | (rw [bvs_length]; omega) | (simp; omega)) (by omega) (by omega) (by first | exact ix_1 | exact ix_s _ | rfl)) | exact vq_extract rfl rfl | exact vq_pickT rfl rfl | exact vq_pickF rfl rfl | exact vq_fieldAddr rfl (by rfl) rfl | exact vq_fieldAddrO rfl (by first | assumption | (simp; done) | (simp; omega)) (by rfl) rfl | exact vq_makeFunc rfl rfl | exact vq_nilCheck rfl | (apply vq_isConv; exact vq_conv rfl (by first | exact wi_id (by omega) | exact wu_id (by omega) | exact wr_id (by omega) (by omega) | rfl)) | (apply vq_isUn; first | exact vq_not rfl | exact vq_xorU rfl (by rfl) | exact vq_neg rfl (by rfl)) | (apply vq_isSlice; first | exact vq_slice rfl (by first | exact bnd_none | exact bnd_nat rfl) (by first | exact bnd_none | exact bnd_nat rfl) (by first | exact bnd_none | exact bnd_nat rfl) rfl (by omega) (by omega) (by omega) | exact vq_sliceArr rfl rfl | exact vq_sliceArrO rfl (by first | assumption | (simp; done) | (simp; omega)) rfl) | (apply vq_isBuild; first | exact vq_build0 | exact vq_buildArr0 | exact vq_build rfl rfl (by first | rfl | (simp [plOf]; done)) (by first | rfl | (simp; done)) | exact vq_buildP rfl (by first | (simp [okS, Value.cells]; done) | (simp [okS, Value.cells]; omega)) rfl) | fail)) ?_
      refine va_takeA 1 rfl rfl rfl rfl ?_
      refine va_takeA 2 rfl rfl rfl rfl ?_
      refine va_takeA 3 rfl rfl rfl rfl ?_
      refine va_takeA 4 rfl rfl rfl rfl ?_
      refine va_takeA 5 rfl rfl rfl rfl ?_
      refine va_takeA 6 rfl rfl rfl rfl ?_
      refine va_takeA 7 rfl rfl rfl rfl ?_
      refine va_one 8 (by kernel_rfl) rfl rfl ?_
      (first | (refine vo_box rfl rfl rfl ?_; intro _) | (refine vo_alloc rfl ?_; intro _) | (refine vo_isStore ?_; first | (refine vo_isPt0 rfl ?_; refine vo_stWA rfl rfl ?_) | (refine vo_isPt rfl ?_; refine vo_stBA rfl rfl ?_) | (refine vo_stO rfl rfl (by rfl) (by first | rfl | assumption) (by first | assumption | (simp; done) | (simp; omega) | omega) rfl ?_; skip)) | (refine vo_isCall ?_; first | (refine vo_isApp ?_; first | (refine vo_append0A rfl rfl rfl ?_; intro _ _ _ _) | (refine vo_appendA rfl rfl rfl ?_; intro _ _ _ _)) | (refine vo_isCopy ?_; refine vo_copyB rfl rfl rfl (by assumption) (by assumption) (by assumption) (by assumption) ?_) | refine vo_yield rfl rfl rfl rfl rfl ?_ | refine vo_callV rfl rfl rfl (vc_in rfl rfl ?_)) | refine vo_convRow rfl rfl ?_ | (refine vo_isBs ?_; refine vo_buildSlice rfl rfl rfl (by decide) (by repeat' (first | exact trivial | rfl | assumption | refine ⟨?_, ?_⟩ | (simp; done) | (simp; omega))) (by decide) rfl ?_; intro _) | (refine vo_buildSlice0 rfl ?_; intro _) | fail)
      refine ⟨.inr (sei _ _ _), ?_⟩
      refine va_one 9 (by kernel_rfl) rfl rfl ?_
      first | refine vo_call rfl rfl ?_ | refine vo_callV rfl rfl rfl ?_
      rename_i gb
      refine vc_pre (sei w0 _ (own 49 33 (some ⟨gb, 0, none⟩) 1 1 (cs ++ []) :: ownLq a c ms :: partB gp a c ms :: ownTs l.a l.c l.xs :: tsA ms :: L)) ?_
      rw [List.append_nil, hcs]
      refine vc_mono (lnins_vc w0 _ a c ms k gb l rfl hle hwide (Ln.len ho) hlen) ?_
      rintro v L' ⟨a2, c2, rfl, rfl⟩
      refine ⟨.inl (by kernel_rfl), ?_⟩
      refine va_takePA 10 rfl rfl rfl rfl ?_
      refine va_takePA 11 rfl rfl rfl rfl ?_
      refine va_takePA 12 rfl rfl rfl rfl ?_
      refine va_one 13 (by kernel_rfl) rfl rfl ?_
      (first | (refine vo_box rfl rfl rfl ?_; intro _) | (refine vo_alloc rfl ?_; intro _) | (refine vo_isStore ?_; first | (refine vo_isPt0 rfl ?_; refine vo_stWA rfl rfl ?_) | (refine vo_isPt rfl ?_; refine vo_stBA rfl rfl ?_) | (refine vo_stO rfl rfl (by rfl) (by first | rfl | assumption) (by first | assumption | (simp; done) | (simp; omega) | omega) rfl ?_; skip)) | (refine vo_isCall ?_; first | (refine vo_isApp ?_; first | (refine vo_append0A rfl rfl rfl ?_; intro _ _ _ _) | (refine vo_appendA rfl rfl rfl ?_; intro _ _ _ _)) | (refine vo_isCopy ?_; refine vo_copyB rfl rfl rfl (by assumption) (by assumption) (by assumption) (by assumption) ?_) | refine vo_yield rfl rfl rfl rfl rfl ?_ | refine vo_callV rfl rfl rfl (vc_in rfl rfl ?_)) | refine vo_convRow rfl rfl ?_ | (refine vo_isBs ?_; refine vo_buildSlice rfl rfl rfl (by decide) (by repeat' (first | exact trivial | rfl | assumption | refine ⟨?_, ?_⟩ | (simp; done) | (simp; omega))) (by decide) rfl ?_; intro _) | (refine vo_buildSlice0 rfl ?_; intro _) | fail)
      refine ⟨.inl (by kernel_rfl), ?_⟩
      refine va_done (by kernel_rfl) ?_
      skip
      repeat' (first | (refine go1 ?_; intros) | ((first | refine vl_caseG rfl rfl rfl rfl ?_ ?_ | refine v_cond rfl ?_ ?_) <;> (intro hb; (try simp only [hq1, hq2, hq3, hq4, ne_eq, hq5, hq6, hq7, hq8] at hb); try (exfalso; omega))) | fail)
      rw [← lnins_len l hle]
      refine ⟨_, (sei w0 _ (ownTs l.a l.c l.xs :: tsA ms :: partB gp a2 c2 (ms.take k ++ l :: ms.drop k) :: ownLs a2 c2 (ms.take k ++ l :: ms.drop k) :: L)).trans ((se_tsA_push ms _ _ l (ins_perm ms k l)).ent w0 |>.trans (sei w0 _ (shP gp a2 c2 (ms.take k ++ l :: ms.drop k) L))), a2, c2, ms.take k ++ l :: ms.drop k, ?_, ?_, rfl⟩
      · rw [← e, lls_app, lls_take]
        show _ ++ (l.pl :: lls (ms.drop k)) = _
        rw [lls_drop]
        rfl
      · refine ⟨fun p hp => ?_, by rw [lnins_len l hle]; omega⟩
        rcases List.mem_append.1 hp with hp | hp
        · exact h.ok p (List.mem_of_mem_take hp)
        rcases List.mem_cons.1 hp with rfl | hp
        · exact hl
        · exact h.ok p (List.mem_of_mem_drop hp)
  · obtain ⟨hk, e1, _⟩ := lineC_lls hs hi
    have hkC : fdC (lls ms) l.own < (lls ms).length := by rwa [List.length_map]
    have e1C : (lls ms)[fdC (lls ms) l.own].1 = l.own := by rw [List.getElem_map]; exact e1
    have hoff := offL_is hs hk
    rw [e1] at hoff
    rw [hoff]
    by_cases hx : l.xs = []
    · have e := setC_is0 hs hkC e1C
      have hx0 : l.xs.length = 0 := by rw [hx]; rfl
      obtain ⟨k, hk'⟩ : ∃ k, k = fdC (lls ms) l.own := ⟨_, rfl⟩
      rw [← hk'] at hle e hk ⊢
      repeat' (first | (refine go1 ?_; intros) | ((first | refine vl_caseG rfl rfl rfl rfl ?_ ?_ | refine v_cond rfl ?_ ?_) <;> (intro hb; (try simp only [hq1, hq2, hq3, hq4, ne_eq, hq5, hq6, hq7, hq8] at hb); try (exfalso; omega))) | fail)
      all_goals first | (exfalso; omega) | skip
      refine vl_o rfl (vo_call rfl rfl ?_)
      refine vc_pre (sei w0 _ (ownLq a c ms :: partB gp a c ms :: tsA (ms.take k ++ ms.drop (k + 1)) :: L)) ?_
      refine vc_mono (lndel_vc w0 _ a c ms k rfl hk hwide hlen) ?_
      rintro v L' ⟨rfl, rfl⟩
      have hml : (ms.take k ++ ms.drop (k + 1)).length = ms.length - 1 := by simp; omega
      repeat' (first | (refine go1 ?_; intros) | ((first | refine vl_caseG rfl rfl rfl rfl ?_ ?_ | refine v_cond rfl ?_ ?_) <;> (intro hb; (try simp only [hq1, hq2, hq3, hq4, ne_eq, hq5, hq6, hq7, hq8] at hb); try (exfalso; omega))) | fail)
      refine ⟨shP gp a c (ms.take k ++ ms.drop (k + 1)) L, ?_, a, c, ms.take k ++ ms.drop (k + 1), ?_, ?_, rfl⟩
      · unfold shP partB
        rw [hml]
        exact sei _ _ _
      · rw [hx, ← e, lls_app, lls_take, lls_drop]
      · refine h.sub (fun p hp => ?_) (by rw [hml]; omega)
        rcases List.mem_append.1 hp with hp | hp
        · exact List.mem_of_mem_take hp
        · exact List.mem_of_mem_drop hp
    · have hx0 : 0 < l.xs.length := Nat.pos_of_ne_zero (fun e => hx (List.eq_nil_of_length_eq_zero e))
      have e := setC_is1 hs hkC e1C hx
      have hpos := h.pos _ hk
      obtain ⟨k, hk'⟩ : ∃ k, k = fdC (lls ms) l.own := ⟨_, rfl⟩
      rw [← hk'] at hle e hk ⊢
      repeat' (first | (refine go1 ?_; intros) | ((first | refine vl_caseG rfl rfl rfl rfl ?_ ?_ | refine v_cond rfl ?_ ?_) <;> (intro hb; (try simp only [hq1, hq2, hq3, hq4, ne_eq, hq5, hq6, hq7, hq8] at hb); try (exfalso; omega))) | fail)
      all_goals first | (exfalso; omega) | skip
      refine v_draw0 [8] (by kernel_rfl) ?_
      refine va_takeA 0 rfl rfl rfl rfl ?_
      refine va_takeA 1 rfl rfl rfl rfl ?_
      refine va_takeA 2 rfl rfl rfl rfl ?_
      refine va_takeA 3 rfl rfl rfl rfl ?_
      refine va_takeA 4 rfl rfl rfl rfl ?_
      refine va_takeA 5 rfl rfl rfl rfl ?_
      refine va_takeA 6 rfl rfl rfl rfl ?_
      refine va_takeA 7 rfl rfl rfl rfl ?_
      refine va_one 8 (by kernel_rfl) rfl rfl ?_
      refine vo_stO (vs := cs) (xs' := lnc (ms.set k l)) rfl rfl rfl hcl (by rw [hcl]; exact hwide.mul k hk) (by rw [hcs]; exact hwide.spl (Ln.len ho) k hk) ?_
      refine ⟨.inl (by kernel_rfl), ?_⟩
      refine va_done (by kernel_rfl) ?_
      skip
      repeat' (first | (refine go1 ?_; intros) | ((first | refine vl_caseG rfl rfl rfl rfl ?_ ?_ | refine v_cond rfl ?_ ?_) <;> (intro hb; (try simp only [hq1, hq2, hq3, hq4, ne_eq, hq5, hq6, hq7, hq8] at hb); try (exfalso; omega))) | fail)
      have hml : (ms.set k l).length = ms.length := List.length_set ..
      refine ⟨shP gp a c (ms.set k l) L, ?_, a, c, ms.set k l, ?_, ?_, rfl⟩
      · unfold shP partB ownLs
        rw [hml]
        exact (sei w0 _ (ownTs l.a l.c l.xs :: tsA (ms.take k ++ ms.drop (k + 1)) :: blk gp 83 [.slice a ms.length c] :: own 49 33 a ms.length c (lnc (ms.set k l)) :: L)).trans ((se_tsA_push _ _ _ l (set_perm hk l)).ent w0 |>.trans (sei w0 _ _))
      · rw [← e, lls, List.map_set]
        rfl
      · refine ⟨fun p hp => ?_, by rw [hml]; exact hlen⟩
        rcases List.mem_or_eq_of_mem_set hp with hp | rfl
        · exact h.ok p hp
        · exact hl
end Go.Proofs.YtccbcdhpnkbkgaaDoor
