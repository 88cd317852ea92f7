/-
  Bytes and hashes of headers: the walks.
-/
import Derived.Test.YtgmaolodfmolmaaDoorHdA
import Derived.Test.YtgmaolodfmolmaaDoorJoin
set_option linter.unusedVariables false
set_option linter.unusedSimpArgs false
namespace Go.Proofs.YtgmaolodfmolmaaDoor
open Go Go.RowKit
set_option linter.unusedVariables false
set_option linter.unusedSimpArgs false

theorem partsOf_ps (w : World) : ∀ (ps : List PB), (∀ p ∈ ps, Rc w p.a (bvs p.l)) → PartsOf w (pbs ps) (ls ps)
  | [], _ => PartsOf.nil w
  | p :: ps, h => PartsOf.cons rfl (h p (by simp)) (partsOf_ps w ps (fun q hq => h q (by simp [hq])))
/-- Parts put together by the library. -/
theorem join_vc (w0 : World) (L : List Asn) (a : Option Addr) (c : Nat) (ps : List PB) {n : Nat} (hn : n = ps.length) (h2 : 2 ≤ ps.length) (hc : ps.length ≤ c) (hn47 : ps.length ≤ 1000000) (hlen : Lib.lens (ls ps) ≤ 140737488355328) [hr : RdC w0 L a (pbs ps)] [hp : RdPs w0 L ps] :
    VC Tryd.prog w0 20 [.slice a n c, .slice none 0 0] L fun v L' => ∃ a' c', v = .slice a' (ls ps).flatten.length c' ∧ (ls ps).flatten.length ≤ c' ∧ L' = rd a' (bvs (ls ps).flatten) :: L := by
  subst hn
  refine vc_mono (vc_fresh (R := fun v M => ∃ a' c', v = .slice a' (ls ps).flatten.length c' ∧ (ls ps).flatten.length ≤ c' ∧ M = [rd a' (bvs (ls ps).flatten)]) (fun w hs => (join_calls a ps.length c (pbs ps) (ls ps) w (by simp [ls]) h2 (hr.out w hs) (partsOf_ps w ps (fun p hpp => (hp.out p hpp).out w hs)) hc hn47 hlen).mono ?_)) ?_
  · rintro e w' ⟨a', cap', rfl, h1, h3⟩
    exact ⟨_, _, rfl, h3, _, _, rfl, h1, rfl⟩
  · rintro v L' ⟨M, rfl, a', cap', rfl, h1, rfl⟩
    exact ⟨_, _, rfl, h1, rfl⟩

theorem hjoin_vc (w0 : World) (L : List Asn) (a : Option Addr) (c : Nat) (ps : List PB) {n : Nat} (hn : n = ps.length) (h2 : 2 ≤ ps.length) (hc : ps.length ≤ c) (hn47 : ps.length ≤ 1000000) (hlen : Lib.lens (ls ps) ≤ 140737488355328) [hr : RdC w0 L a (pbs ps)] [hp : RdPs w0 L ps] :
    VC Tryd.prog w0 16 [.slice a n c] L fun v L' => ∃ a' c', v = .slice a' (ls ps).flatten.length c' ∧ (ls ps).flatten.length ≤ c' ∧ L' = rd a' (bvs (ls ps).flatten) :: L := by
  subst hn
  refine vc_in rfl rfl ?_
  repeat' (first | (refine go1 ?_; intros) | (refine vl_caseG rfl rfl rfl rfl ?_ ?_ <;> (intro hb; (try simp only [decide_eq_true_eq, decide_eq_false_iff_not, Bool.not_eq_true', Bool.not_eq_false', ne_eq, Decidable.not_not, Option.isNone_iff_eq_none, not_true_eq_false, not_false_eq_true] at hb); try (exfalso; omega))) | (refine v_cond rfl ?_ ?_ <;> (intro hb; (try simp only [decide_eq_true_eq, decide_eq_false_iff_not, Bool.not_eq_true', Bool.not_eq_false', ne_eq, Decidable.not_not, Option.isNone_iff_eq_none, not_true_eq_false, not_false_eq_true] at hb); try (exfalso; omega))) | fail)
  refine vl_o rfl (vo_call rfl rfl ?_)
  refine vc_mono (join_vc w0 _ a c ps rfl h2 hc hn47 hlen) ?_
  rintro v L' ⟨a1, c1, rfl, h1, rfl⟩
  repeat' (first | (refine go1 ?_; intros) | (refine vl_caseG rfl rfl rfl rfl ?_ ?_ <;> (intro hb; (try simp only [decide_eq_true_eq, decide_eq_false_iff_not, Bool.not_eq_true', Bool.not_eq_false', ne_eq, Decidable.not_not, Option.isNone_iff_eq_none, not_true_eq_false, not_false_eq_true] at hb); try (exfalso; omega))) | (refine v_cond rfl ?_ ?_ <;> (intro hb; (try simp only [decide_eq_true_eq, decide_eq_false_iff_not, Bool.not_eq_true', Bool.not_eq_false', ne_eq, Decidable.not_not, Option.isNone_iff_eq_none, not_true_eq_false, not_false_eq_true] at hb); try (exfalso; omega))) | fail)
  exact ⟨_, _, rfl, h1, rfl⟩

set_option maxRecDepth 100000 in
theorem hbytes_err_vc (w0 : World) (L : List Asn) (h : Hd) (o : h.ok) (hm : h.may = false) :
    VC Tryd.prog w0 11 [.agg h.cells.toArray] L fun v L' => v = .tuple #[.slice none 0 0, .int .i64 8] ∧ L' = L := by
  have hlen := Hd.len o
  refine vc_ent ?_
  refine vc_in rfl rfl ?_
  repeat' (first | (refine go1 ?_; intros) | (refine vl_caseG rfl rfl rfl rfl ?_ ?_ <;> (intro hb; (try simp only [decide_eq_true_eq, decide_eq_false_iff_not, Bool.not_eq_true', Bool.not_eq_false', ne_eq, Decidable.not_not, Option.isNone_iff_eq_none, not_true_eq_false, not_false_eq_true] at hb); try (exfalso; omega))) | (refine v_cond rfl ?_ ?_ <;> (intro hb; (try simp only [decide_eq_true_eq, decide_eq_false_iff_not, Bool.not_eq_true', Bool.not_eq_false', ne_eq, Decidable.not_not, Option.isNone_iff_eq_none, not_true_eq_false, not_false_eq_true] at hb); try (exfalso; omega))) | fail)
  refine vl_o rfl (vo_call rfl rfl ?_)
  refine vc_mono (hcheck_vc w0 _ h o) ?_
  rintro v L' ⟨rfl, rfl⟩
  rw [hm]
  simp only [Bool.false_eq_true, if_false]
  repeat' (first | (refine go1 ?_; intros) | (refine vl_caseG rfl rfl rfl rfl ?_ ?_ <;> (intro hb; (try simp only [decide_eq_true_eq, decide_eq_false_iff_not, Bool.not_eq_true', Bool.not_eq_false', ne_eq, Decidable.not_not, Option.isNone_iff_eq_none, not_true_eq_false, not_false_eq_true] at hb); try (exfalso; omega))) | (refine v_cond rfl ?_ ?_ <;> (intro hb; (try simp only [decide_eq_true_eq, decide_eq_false_iff_not, Bool.not_eq_true', Bool.not_eq_false', ne_eq, Decidable.not_not, Option.isNone_iff_eq_none, not_true_eq_false, not_false_eq_true] at hb); try (exfalso; omega))) | fail)
  exact ⟨_, (se_drop _ _).ent w0, rfl, rfl⟩

set_option maxRecDepth 100000 in
set_option maxHeartbeats 1000000 in
theorem hbytes_vc (w0 : World) (L : List Asn) (h : Hd) (o : h.ok) (hm : h.may = true) :
    VC Tryd.prog w0 11 [.agg h.cells.toArray] L fun v L' => ∃ a c, v = .tuple #[.slice a (hBytes h).length c, .int .i64 0] ∧ L' = rd a (bvs (hBytes h)) :: L := by
  have hlen := Hd.len o
  have hmay := of_decide_eq_true hm
  obtain ⟨N, hN⟩ : ∃ N : Nat, h.height = (N : Int) := ⟨h.height.toNat, by omega⟩
  obtain ⟨M, hM⟩ : ∃ M : Nat, h.many = (M : Int) := ⟨h.many.toNat, by omega⟩
  have f0 := Hd.f0 h
  have f1 := Hd.f1 o
  have f2 := Hd.f2 o
  have f3 := Hd.f3 o
  have f4 := Hd.f4 o
  rw [hN] at f0
  rw [hM] at f4
  have hB : hBytes h = digs N 8 ++ (h.parent ++ (h.state ++ (h.rows ++ digs M 4))) := by unfold hBytes; rw [hN, hM]; rfl
  have hNl : N ≤ 1073741824 := by omega
  have hMl : M ≤ 256 := by omega
  have op := o.parent
  have os := o.state
  have orr := o.rows
  have hd8 := digs_length N 8
  have hd4 := digs_length M 4
  refine vc_ent ?_
  refine vc_in rfl rfl ?_
  repeat' (first | (refine go1 ?_; intros) | (refine vl_caseG rfl rfl rfl rfl ?_ ?_ <;> (intro hb; (try simp only [decide_eq_true_eq, decide_eq_false_iff_not, Bool.not_eq_true', Bool.not_eq_false', ne_eq, Decidable.not_not, Option.isNone_iff_eq_none, not_true_eq_false, not_false_eq_true] at hb); try (exfalso; omega))) | (refine v_cond rfl ?_ ?_ <;> (intro hb; (try simp only [decide_eq_true_eq, decide_eq_false_iff_not, Bool.not_eq_true', Bool.not_eq_false', ne_eq, Decidable.not_not, Option.isNone_iff_eq_none, not_true_eq_false, not_false_eq_true] at hb); try (exfalso; omega))) | fail)
  rename_i g1
  refine vl_o rfl (vo_call rfl rfl ?_)
  refine vc_mono (hcheck_vc w0 _ h o) ?_
  rintro v L' ⟨rfl, rfl⟩
  rw [hm]
  simp only [if_true]
  generalize h.cells = cs at *
  repeat' (first | (refine go1 ?_; intros) | (refine vl_caseG rfl rfl rfl rfl ?_ ?_ <;> (intro hb; (try simp only [decide_eq_true_eq, decide_eq_false_iff_not, Bool.not_eq_true', Bool.not_eq_false', ne_eq, Decidable.not_not, Option.isNone_iff_eq_none, not_true_eq_false, not_false_eq_true] at hb); try (exfalso; omega))) | (refine v_cond rfl ?_ ?_ <;> (intro hb; (try simp only [decide_eq_true_eq, decide_eq_false_iff_not, Bool.not_eq_true', Bool.not_eq_false', ne_eq, Decidable.not_not, Option.isNone_iff_eq_none, not_true_eq_false, not_false_eq_true] at hb); try (exfalso; omega))) | fail)
  haveI r1 : ∀ L, RdC w0 (blk g1 25 cs :: L) (some ⟨g1, 0 + 1, none⟩) (bvs h.parent) := fun L => rdC_part (0 + 1) 32 f1
  haveI r2 : ∀ L, RdC w0 (blk g1 25 cs :: L) (some ⟨g1, 0 + 33, none⟩) (bvs h.state) := fun L => rdC_part (0 + 33) 32 f2
  haveI r3 : ∀ L, RdC w0 (blk g1 25 cs :: L) (some ⟨g1, 0 + 65, none⟩) (bvs h.rows) := fun L => rdC_part (0 + 65) 32 f3
  (refine v_draw0 [13] (by kernel_rfl) ?_ <;> (refine va_takeW 0 rfl rfl rfl rfl ?_) <;> (refine va_takeW 1 rfl rfl rfl rfl ?_) <;> (refine va_takeW 3 rfl rfl rfl rfl ?_) <;> (refine va_takeW 4 rfl rfl rfl rfl ?_) <;> (refine va_takeW 5 rfl rfl rfl rfl ?_) <;> (refine va_takeW 6 rfl rfl rfl rfl ?_) <;> (refine va_takeW 7 rfl rfl rfl rfl ?_) <;> (refine va_takeW 8 rfl rfl rfl rfl ?_) <;> (refine va_takeW 9 rfl rfl rfl rfl ?_) <;> (refine va_takeW 10 rfl rfl rfl rfl ?_))
  refine va_one 2 (by kernel_rfl) rfl rfl (vo_call rfl rfl ?_)
  refine vc_mono (hnumber_vc w0 _ N 8 (by decide) (by decide) (by omega) (by omega)) ?_
  rintro v L' ⟨a1, c1, rfl, rfl⟩
  refine ⟨.inr (SE.ent (by repeat' (first | exact SE.refl _ | refine SE.cons _ ?_ | refine SE.trans (se_drop _ _) ?_)) _), ?_⟩
  skip
  refine va_one 11 (by kernel_rfl) rfl rfl (vo_call rfl rfl ?_)
  refine vc_mono (hnumber_vc w0 _ M 4 (by decide) (by decide) (by omega) (by omega)) ?_
  rintro v L' ⟨a2, c2, rfl, rfl⟩
  refine ⟨.inr (SE.ent (by repeat' (first | exact SE.refl _ | refine SE.cons _ ?_ | refine SE.trans (se_drop _ _) ?_)) _), ?_⟩
  ((refine va_one 12 (by kernel_rfl) rfl rfl ?_; (first | (refine vo_box rfl rfl rfl ?_; intro _) | (refine vo_alloc rfl ?_; intro _) | (refine vo_isStore ?_; first | (refine vo_isPt0 rfl ?_; refine vo_stWA rfl rfl ?_) | (refine vo_isPt rfl ?_; refine vo_stBA rfl rfl ?_) | (refine vo_stO rfl rfl (by rfl) (by first | rfl | assumption) (by first | assumption | (simp; done) | (simp; omega) | omega) rfl ?_; skip)) | (refine vo_isCall ?_; first | (refine vo_isApp ?_; first | (refine vo_append0A rfl rfl rfl ?_; intro _ _ _ _) | (refine vo_appendA rfl rfl rfl ?_; intro _ _ _ _)) | (refine vo_isCopy ?_; refine vo_copyB rfl rfl rfl (by assumption) (by assumption) (by assumption) (by assumption) ?_) | refine vo_yield rfl rfl rfl rfl rfl ?_ | refine vo_callV rfl rfl rfl (vc_in rfl rfl ?_)) | refine vo_convRow rfl rfl ?_ | (refine vo_isBs ?_; refine vo_buildSlice rfl rfl rfl (by decide) (by repeat' (first | exact trivial | rfl | assumption | refine ⟨?_, ?_⟩ | (simp; done) | (simp; omega))) (by decide) rfl ?_; intro _) | (refine vo_buildSlice0 rfl ?_; intro _) | fail); refine ⟨.inr (SE.ent (by repeat' (first | exact SE.refl _ | refine SE.cons _ ?_ | refine SE.trans (se_drop _ _) ?_)) _), ?_⟩))
  rename_i g2
  refine va_one 13 (by kernel_rfl) rfl rfl (vo_call rfl rfl ?_)
  have hps : ls [⟨a1, c1, digs N 8⟩, ⟨some ⟨g1, 0 + 1, none⟩, 32, h.parent⟩, ⟨some ⟨g1, 0 + 33, none⟩, 32, h.state⟩, ⟨some ⟨g1, 0 + 65, none⟩, 32, h.rows⟩, ⟨a2, c2, digs M 4⟩] = [digs N 8, h.parent, h.state, h.rows, digs M 4] := rfl
  have hfl : [digs N 8, h.parent, h.state, h.rows, digs M 4].flatten = hBytes h := by rw [hB]; simp
  haveI hA : ∀ L, RdC w0 (own 29 1 (some ⟨g2, 0, none⟩) 5 5 [.slice a1 8 c1, .slice (some ⟨g1, 0 + 1, none⟩) 32 32, .slice (some ⟨g1, 0 + 33, none⟩) 32 32, .slice (some ⟨g1, 0 + 65, none⟩) 32 32, .slice a2 4 c2] :: L) (some ⟨g2, 0, none⟩) (pbs [⟨a1, c1, digs N 8⟩, ⟨some ⟨g1, 0 + 1, none⟩, 32, h.parent⟩, ⟨some ⟨g1, 0 + 33, none⟩, 32, h.state⟩, ⟨some ⟨g1, 0 + 65, none⟩, 32, h.rows⟩, ⟨a2, c2, digs M 4⟩]) := fun L => by
    have e : pbs [⟨a1, c1, digs N 8⟩, ⟨some ⟨g1, 0 + 1, none⟩, 32, h.parent⟩, ⟨some ⟨g1, 0 + 33, none⟩, 32, h.state⟩, ⟨some ⟨g1, 0 + 65, none⟩, 32, h.rows⟩, ⟨a2, c2, digs M 4⟩] = [.slice a1 8 c1, .slice (some ⟨g1, 0 + 1, none⟩) 32 32, .slice (some ⟨g1, 0 + 33, none⟩) 32 32, .slice (some ⟨g1, 0 + 65, none⟩) 32 32, .slice a2 4 c2] := by
      simp only [pbs, PB.v, List.map_cons, List.map_nil, hd8, hd4, op, os, orr]
    rw [e]
    infer_instance
  haveI hB5 : RdPs w0 (own 29 1 (some ⟨g2, 0, none⟩) 5 5 [.slice a1 8 c1, .slice (some ⟨g1, 0 + 1, none⟩) 32 32, .slice (some ⟨g1, 0 + 33, none⟩) 32 32, .slice (some ⟨g1, 0 + 65, none⟩) 32 32, .slice a2 4 c2] :: ownB a2 c2 (digs M 4) :: ownB a1 c1 (digs N 8) :: blk g1 25 cs :: L) [⟨a1, c1, digs N 8⟩, ⟨some ⟨g1, 0 + 1, none⟩, 32, h.parent⟩, ⟨some ⟨g1, 0 + 33, none⟩, 32, h.state⟩, ⟨some ⟨g1, 0 + 65, none⟩, 32, h.rows⟩, ⟨a2, c2, digs M 4⟩] := ⟨fun p hp => by
    simp only [List.mem_cons, List.not_mem_nil, or_false] at hp
    rcases hp with rfl | rfl | rfl | rfl | rfl <;> infer_instance⟩
  refine vc_mono (hjoin_vc w0 _ (some ⟨g2, 0, none⟩) 5 [⟨a1, c1, digs N 8⟩, ⟨some ⟨g1, 0 + 1, none⟩, 32, h.parent⟩, ⟨some ⟨g1, 0 + 33, none⟩, 32, h.state⟩, ⟨some ⟨g1, 0 + 65, none⟩, 32, h.rows⟩, ⟨a2, c2, digs M 4⟩] rfl (by simp) (by simp) (by simp) (by rw [hps]; simp [Lib.lens, hd8, hd4, op, os, orr])) ?_
  rintro v L' ⟨a3, c3, rfl, hc3, rfl⟩
  rw [hps, hfl] at hc3 ⊢
  refine ⟨.inr (SE.ent (by repeat' (first | exact SE.refl _ | refine SE.cons _ ?_ | refine SE.trans (se_drop _ _) ?_)) _), ?_⟩
  ((refine va_takePW 14 rfl rfl rfl rfl ?_) <;> (refine va_takePW 15 rfl rfl rfl rfl ?_) <;> (refine va_done (by kernel_rfl) ?_))
  repeat' (first | (refine go1 ?_; intros) | (refine vl_caseG rfl rfl rfl rfl ?_ ?_ <;> (intro hb; (try simp only [decide_eq_true_eq, decide_eq_false_iff_not, Bool.not_eq_true', Bool.not_eq_false', ne_eq, Decidable.not_not, Option.isNone_iff_eq_none, not_true_eq_false, not_false_eq_true] at hb); try (exfalso; omega))) | (refine v_cond rfl ?_ ?_ <;> (intro hb; (try simp only [decide_eq_true_eq, decide_eq_false_iff_not, Bool.not_eq_true', Bool.not_eq_false', ne_eq, Decidable.not_not, Option.isNone_iff_eq_none, not_true_eq_false, not_false_eq_true] at hb); try (exfalso; omega))) | fail)
  refine ⟨_, ?_, a3, c3, rfl, rfl⟩
  exact (SE.cons _ ((se_drop _ _).trans ((se_drop _ _).trans ((se_drop _ _).trans (se_drop _ _))))).ent w0
end Go.Proofs.YtgmaolodfmolmaaDoor
