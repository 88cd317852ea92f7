/-
  The first unlike inputs of two proofs, and of a tree and a proof: the program's and the document's.
-/
import Derived.Test.YtnoihibaoalkaaaDoorClaE
import Derived.Test.YtnoihibaoalkaaaDoorTDoA
import Derived.Test.YtnoihibaoalkaaaDoorTPrC
import Derived.Test.YtnoihibaoalkaaaDoorGJ
import Derived.Test.YtnoihibaoalkaaaDoorTPrB
import Derived.Test.YtnoihibaoalkaaaDoorTE
set_option linter.unusedVariables false
set_option linter.unusedSimpArgs false
namespace Go.Proofs.YtnoihibaoalkaaaDoor
open Go Go.RowKit
set_option linter.unusedVariables false
set_option linter.unusedSimpArgs false
open Classical

noncomputable def seekG (a b : Prf) : List UInt8 × List UInt8 × Int := if (a.may && b.may) = true then (if unC a b = true then (match firstU a.ins b.ins with | some (x, y) => (x, y, 0) | none => ([], [], 2)) else ([], [], 2)) else ([], [], 8)
theorem ins_ct (p : Prf) : p.ct.ins = p.ins := by
  unfold Prf.ins
  rw [may_ct, show p.ct.pl = p.pl from rfl, fromB_ct]
theorem unC_ct (p q : Prf) : unC p.ct q = unC p q := rfl
theorem seekG_ct (p q : Prf) : seekG p.ct q = seekG p q := by
  unfold seekG
  rw [ins_ct, unC_ct, may_ct]
def RSeek (w0 : World) (L : List Asn) (t : List UInt8 × List UInt8 × Int) (v : Value) (L' : List Asn) : Prop := ∃ ax cx ay cy, v = .tuple #[.slice ax t.1.length cx, .slice ay t.2.1.length cy, .int .i64 t.2.2] ∧ L' = ownB ax cx t.1 :: ownB ay cy t.2.1 :: L
theorem seekG_eq {a b : Prf} (h : a.key = b.key) : seekG a b = seekQ a b := by
  unfold seekG seekQ unC
  rw [decide_eq_true h, Bool.true_and]
  rfl
set_option maxRecDepth 100000 in
set_option maxHeartbeats 4000000 in
theorem cseekG_vc (w0 : World) (L : List Asn) [hK : RdA w0 (some ⟨0, 0, none⟩) (wds K64)] (a b : Prf) (h : a.ok) (k : b.ok) [hr : RdC w0 L a.va (bvs a.vl)] [hr2 : RdC w0 L a.pa (bvs a.pl.flatten)] [hs : RdC w0 L b.va (bvs b.vl)] [hs2 : RdC w0 L b.pa (bvs b.pl.flatten)] :
    VC Tryd.prog w0 20 [.agg a.cells.toArray, .agg b.cells.toArray] L (RSeek w0 L (seekG a b)) := by
  by_cases hkey : a.key = b.key
  · rw [seekG_eq hkey]
    exact cseek_vc w0 L a b h k hkey
  have hcl := Prf.len h
  have kcl := Prf.len k
  have hun : unC a b = false := by unfold unC; rw [decide_eq_false hkey, Bool.false_and]
  have bad : ∀ M, SE M L → SE M (ownB none 0 [] :: ownB none 0 [] :: L) := fun M hM => hM.trans ((se_own_nil _ 1 _).trans (se_own_nil _ 1 _))
  refine vc_ent ?_
  refine vc_in rfl rfl ?_
  unfold seekG
  repeat' (first | (refine go1 ?_; intros) | (refine vl_caseG rfl rfl rfl rfl ?_ ?_ <;> (intro hb; (try simp only [decide_eq_true_eq, decide_eq_false_iff_not, Bool.not_eq_true', Bool.not_eq_false', ne_eq, Decidable.not_not, Option.isNone_iff_eq_none, not_true_eq_false, not_false_eq_true] at hb); try (exfalso; omega))) | (refine v_cond rfl ?_ ?_ <;> (intro hb; (try simp only [decide_eq_true_eq, decide_eq_false_iff_not, Bool.not_eq_true', Bool.not_eq_false', ne_eq, Decidable.not_not, Option.isNone_iff_eq_none, not_true_eq_false, not_false_eq_true] at hb); try (exfalso; omega))) | fail)
  refine vl_o rfl (vo_call rfl rfl ?_)
  refine vc_mono (vins_vc w0 _ a h) ?_
  rintro v L' ⟨a1, c1, qs, rfl, hq, rfl⟩
  repeat' (first | (refine go1 ?_; intros) | (refine vl_caseG rfl rfl rfl rfl ?_ ?_ <;> (intro hb; (try simp only [decide_eq_true_eq, decide_eq_false_iff_not, Bool.not_eq_true', Bool.not_eq_false', ne_eq, Decidable.not_not, Option.isNone_iff_eq_none, not_true_eq_false, not_false_eq_true] at hb); try (exfalso; omega))) | (refine v_cond rfl ?_ ?_ <;> (intro hb; (try simp only [decide_eq_true_eq, decide_eq_false_iff_not, Bool.not_eq_true', Bool.not_eq_false', ne_eq, Decidable.not_not, Option.isNone_iff_eq_none, not_true_eq_false, not_false_eq_true] at hb); try (exfalso; omega))) | fail)
  refine vl_o rfl (vo_call rfl rfl ?_)
  refine vc_mono (vins_vc w0 _ b k) ?_
  rintro v L' ⟨a2, c2, rs, rfl, hrs, rfl⟩
  by_cases hm : (a.may && b.may) = true
  rotate_left
  · rw [if_neg hm]
    cases hma : a.may
    · rw [if_neg (show ¬ (false = true) by decide)]
      repeat' (first | (refine goE ?_; intros) | (refine vl_caseG rfl rfl rfl rfl ?_ ?_ <;> (intro hb; (try simp only [decide_eq_true_eq, decide_eq_false_iff_not, Bool.not_eq_true', Bool.not_eq_false', ne_eq, Decidable.not_not, Option.isNone_iff_eq_none, not_true_eq_false, not_false_eq_true] at hb); try (exfalso; omega))) | (refine v_cond rfl ?_ ?_ <;> (intro hb; (try simp only [decide_eq_true_eq, decide_eq_false_iff_not, Bool.not_eq_true', Bool.not_eq_false', ne_eq, Decidable.not_not, Option.isNone_iff_eq_none, not_true_eq_false, not_false_eq_true] at hb); try (exfalso; omega))) | fail)
      refine ⟨ownB none 0 [] :: ownB none 0 [] :: L, SE.ent (bad _ ?_) w0, none, 0, none, 0, rfl, rfl⟩
      exact SEI.out
    · have hmb : b.may = false := by rw [hma] at hm; simpa using hm
      rw [hmb, if_pos rfl, if_neg (show ¬ (false = true) by decide)]
      repeat' (first | (refine goE ?_; intros) | (refine vl_caseG rfl rfl rfl rfl ?_ ?_ <;> (intro hb; (try simp only [decide_eq_true_eq, decide_eq_false_iff_not, Bool.not_eq_true', Bool.not_eq_false', ne_eq, Decidable.not_not, Option.isNone_iff_eq_none, not_true_eq_false, not_false_eq_true] at hb); try (exfalso; omega))) | (refine v_cond rfl ?_ ?_ <;> (intro hb; (try simp only [decide_eq_true_eq, decide_eq_false_iff_not, Bool.not_eq_true', Bool.not_eq_false', ne_eq, Decidable.not_not, Option.isNone_iff_eq_none, not_true_eq_false, not_false_eq_true] at hb); try (exfalso; omega))) | fail)
      refine ⟨ownB none 0 [] :: ownB none 0 [] :: L, SE.ent (bad _ ?_) w0, none, 0, none, 0, rfl, rfl⟩
      exact SEI.out
  rw [if_pos hm]
  obtain ⟨hma, hmb⟩ : a.may = true ∧ b.may = true := by simpa using hm
  rw [hma, hmb, if_pos rfl]
  repeat' (first | (refine go1 ?_; intros) | (refine vl_caseG rfl rfl rfl rfl ?_ ?_ <;> (intro hb; (try simp only [decide_eq_true_eq, decide_eq_false_iff_not, Bool.not_eq_true', Bool.not_eq_false', ne_eq, Decidable.not_not, Option.isNone_iff_eq_none, not_true_eq_false, not_false_eq_true] at hb); try (exfalso; omega))) | (refine v_cond rfl ?_ ?_ <;> (intro hb; (try simp only [decide_eq_true_eq, decide_eq_false_iff_not, Bool.not_eq_true', Bool.not_eq_false', ne_eq, Decidable.not_not, Option.isNone_iff_eq_none, not_true_eq_false, not_false_eq_true] at hb); try (exfalso; omega))) | fail)
  refine vl_o rfl (vo_call rfl rfl ?_)
  refine vc_mono (cunlikeG_vc w0 _ a b h k) ?_
  rintro v L' ⟨rfl, rfl⟩
  rw [hun, if_neg (by decide)]
  repeat' (first | (refine go1 ?_; intros) | (refine vl_caseG rfl rfl rfl rfl ?_ ?_ <;> (intro hb; (try simp only [decide_eq_true_eq, decide_eq_false_iff_not, Bool.not_eq_true', Bool.not_eq_false', ne_eq, Decidable.not_not, Option.isNone_iff_eq_none, not_true_eq_false, not_false_eq_true] at hb); try (exfalso; omega))) | (refine v_cond rfl ?_ ?_ <;> (intro hb; (try simp only [decide_eq_true_eq, decide_eq_false_iff_not, Bool.not_eq_true', Bool.not_eq_false', ne_eq, Decidable.not_not, Option.isNone_iff_eq_none, not_true_eq_false, not_false_eq_true] at hb); try (exfalso; omega))) | fail)
  refine ⟨ownB none 0 [] :: ownB none 0 [] :: L, SE.ent (bad _ ?_) w0, none, 0, none, 0, rfl, rfl⟩
  exact SEI.out
noncomputable def ofG (ns : List Nd) (r : Int) (p : Prf) : List UInt8 × List UInt8 × Int := if MayP ns r ∧ p.may = true then (if p.root = sumP ns r.toNat ∧ unC (prfT ns r p.key) p = true then seekG (prfT ns r p.key) p else ([], [], 6)) else ([], [], 8)
set_option maxRecDepth 100000 in
set_option maxHeartbeats 4000000 in
theorem cof_vc (w0 : World) (L : List Asn) [hK : RdA w0 (some ⟨0, 0, none⟩) (wds K64)] (a : Option Addr) (c : Nat) (ns : List Nd) (r : Int) (p : Prf) {n : Nat} (hn : n = ns.length) (hok : NsOk ns) (h : p.ok) [hn1 : RdC w0 L a (ndc ns)] [hn2 : RdNs w0 L ns] [hr : RdC w0 L p.va (bvs p.vl)] [hr2 : RdC w0 L p.pa (bvs p.pl.flatten)] :
    VC Tryd.prog w0 18 [.agg #[.slice a n c, .int .i64 r], .agg p.cells.toArray] L (RSeek w0 L (ofG ns r p)) := by
  subst hn
  have hcl := Prf.len h
  have f0 := Prf.f0 h
  have hpk := h.key
  have bad : ∀ M, SE M L → SE M (ownB none 0 [] :: ownB none 0 [] :: L) := fun M hM => hM.trans ((se_own_nil _ 1 _).trans (se_own_nil _ 1 _))
  refine vc_ent ?_
  refine vc_in rfl rfl ?_
  unfold ofG
  repeat' (first | (refine go1 ?_; intros) | (refine vl_caseG rfl rfl rfl rfl ?_ ?_ <;> (intro hb; (try simp only [decide_eq_true_eq, decide_eq_false_iff_not, Bool.not_eq_true', Bool.not_eq_false', ne_eq, Decidable.not_not, Option.isNone_iff_eq_none, not_true_eq_false, not_false_eq_true] at hb); try (exfalso; omega))) | (refine v_cond rfl ?_ ?_ <;> (intro hb; (try simp only [decide_eq_true_eq, decide_eq_false_iff_not, Bool.not_eq_true', Bool.not_eq_false', ne_eq, Decidable.not_not, Option.isNone_iff_eq_none, not_true_eq_false, not_false_eq_true] at hb); try (exfalso; omega))) | fail)
  refine vl_o rfl (vo_call rfl rfl ?_)
  refine vc_mono (pmake_vc w0 _ a c ns r p.key rfl hok hpk) ?_
  rintro v L' ⟨q, rfl, hq1, hq2, rfl⟩
  have hqc := Prf.len hq2
  rw [← hq1, unC_ct, seekG_ct]
  by_cases hm : MayP ns r
  rotate_left
  · rw [if_neg (fun e => hm e.1), show mayE ns r = 8 by unfold mayE; rw [if_neg hm]]
    repeat' (first | (refine go1 ?_; intros) | (refine vl_caseG rfl rfl rfl rfl ?_ ?_ <;> (intro hb; (try simp only [decide_eq_true_eq, decide_eq_false_iff_not, Bool.not_eq_true', Bool.not_eq_false', ne_eq, Decidable.not_not, Option.isNone_iff_eq_none, not_true_eq_false, not_false_eq_true] at hb); try (exfalso; omega))) | (refine v_cond rfl ?_ ?_ <;> (intro hb; (try simp only [decide_eq_true_eq, decide_eq_false_iff_not, Bool.not_eq_true', Bool.not_eq_false', ne_eq, Decidable.not_not, Option.isNone_iff_eq_none, not_true_eq_false, not_false_eq_true] at hb); try (exfalso; omega))) | fail)
    refine ⟨ownB none 0 [] :: ownB none 0 [] :: L, SE.ent (bad _ ?_) w0, none, 0, none, 0, rfl, rfl⟩
    exact SEI.out
  rw [show mayE ns r = 0 by unfold mayE; rw [if_pos hm]]
  repeat' (first | (refine go1 ?_; intros) | (refine vl_caseG rfl rfl rfl rfl ?_ ?_ <;> (intro hb; (try simp only [decide_eq_true_eq, decide_eq_false_iff_not, Bool.not_eq_true', Bool.not_eq_false', ne_eq, Decidable.not_not, Option.isNone_iff_eq_none, not_true_eq_false, not_false_eq_true] at hb); try (exfalso; omega))) | (refine v_cond rfl ?_ ?_ <;> (intro hb; (try simp only [decide_eq_true_eq, decide_eq_false_iff_not, Bool.not_eq_true', Bool.not_eq_false', ne_eq, Decidable.not_not, Option.isNone_iff_eq_none, not_true_eq_false, not_false_eq_true] at hb); try (exfalso; omega))) | fail)
  refine vl_o rfl (vo_call rfl rfl ?_)
  refine vc_mono (check_vc w0 _ p h) ?_
  rintro v L' ⟨rfl, rfl⟩
  by_cases hpm : p.may = true
  rotate_left
  · rw [if_neg (fun e => hpm e.2), if_neg hpm]
    repeat' (first | (refine go1 ?_; intros) | (refine vl_caseG rfl rfl rfl rfl ?_ ?_ <;> (intro hb; (try simp only [decide_eq_true_eq, decide_eq_false_iff_not, Bool.not_eq_true', Bool.not_eq_false', ne_eq, Decidable.not_not, Option.isNone_iff_eq_none, not_true_eq_false, not_false_eq_true] at hb); try (exfalso; omega))) | (refine v_cond rfl ?_ ?_ <;> (intro hb; (try simp only [decide_eq_true_eq, decide_eq_false_iff_not, Bool.not_eq_true', Bool.not_eq_false', ne_eq, Decidable.not_not, Option.isNone_iff_eq_none, not_true_eq_false, not_false_eq_true] at hb); try (exfalso; omega))) | fail)
    refine ⟨ownB none 0 [] :: ownB none 0 [] :: L, SE.ent (bad _ ?_) w0, none, 0, none, 0, rfl, rfl⟩
    exact SEI.out
  rw [if_pos ⟨hm, hpm⟩, if_pos hpm]
  repeat' (first | (refine go1 ?_; intros) | (refine vl_caseG rfl rfl rfl rfl ?_ ?_ <;> (intro hb; (try simp only [decide_eq_true_eq, decide_eq_false_iff_not, Bool.not_eq_true', Bool.not_eq_false', ne_eq, Decidable.not_not, Option.isNone_iff_eq_none, not_true_eq_false, not_false_eq_true] at hb); try (exfalso; omega))) | (refine v_cond rfl ?_ ?_ <;> (intro hb; (try simp only [decide_eq_true_eq, decide_eq_false_iff_not, Bool.not_eq_true', Bool.not_eq_false', ne_eq, Decidable.not_not, Option.isNone_iff_eq_none, not_true_eq_false, not_false_eq_true] at hb); try (exfalso; omega))) | fail)
  refine vl_o rfl (vo_call rfl rfl ?_)
  refine vc_mono (tSum_vc w0 _ a c ns r rfl hok) ?_
  rintro v L' ⟨rfl, rfl⟩
  have hsl := sumT_len ns r
  have hse : sumT ns r = sumP ns r.toNat := by unfold sumT; rw [if_pos hm]
  rw [← hse]
  generalize sumT ns r = S at *
  repeat' (first | (refine go1 ?_; intros) | (refine vl_caseG rfl rfl rfl rfl ?_ ?_ <;> (intro hb; (try simp only [decide_eq_true_eq, decide_eq_false_iff_not, Bool.not_eq_true', Bool.not_eq_false', ne_eq, Decidable.not_not, Option.isNone_iff_eq_none, not_true_eq_false, not_false_eq_true] at hb); try (exfalso; omega))) | (refine v_cond rfl ?_ ?_ <;> (intro hb; (try simp only [decide_eq_true_eq, decide_eq_false_iff_not, Bool.not_eq_true', Bool.not_eq_false', ne_eq, Decidable.not_not, Option.isNone_iff_eq_none, not_true_eq_false, not_false_eq_true] at hb); try (exfalso; omega))) | fail)
  refine vl_o rfl (vo_call rfl rfl ?_)
  refine vc_mono (vfits_vc w0 _ p h S hsl) ?_
  rintro v L' ⟨rfl, rfl⟩
  rw [hpm, Bool.true_and]
  by_cases hroot : p.root = S
  rotate_left
  · rw [decide_eq_false hroot, if_neg (fun e => hroot e.1)]
    repeat' (first | (refine go1 ?_; intros) | (refine vl_caseG rfl rfl rfl rfl ?_ ?_ <;> (intro hb; (try simp only [decide_eq_true_eq, decide_eq_false_iff_not, Bool.not_eq_true', Bool.not_eq_false', ne_eq, Decidable.not_not, Option.isNone_iff_eq_none, not_true_eq_false, not_false_eq_true] at hb); try (exfalso; omega))) | (refine v_cond rfl ?_ ?_ <;> (intro hb; (try simp only [decide_eq_true_eq, decide_eq_false_iff_not, Bool.not_eq_true', Bool.not_eq_false', ne_eq, Decidable.not_not, Option.isNone_iff_eq_none, not_true_eq_false, not_false_eq_true] at hb); try (exfalso; omega))) | fail)
    refine ⟨ownB none 0 [] :: ownB none 0 [] :: L, SE.ent (bad _ ?_) w0, none, 0, none, 0, rfl, rfl⟩
    exact SEI.out
  rw [decide_eq_true hroot]
  repeat' (first | (refine go1 ?_; intros) | (refine vl_caseG rfl rfl rfl rfl ?_ ?_ <;> (intro hb; (try simp only [decide_eq_true_eq, decide_eq_false_iff_not, Bool.not_eq_true', Bool.not_eq_false', ne_eq, Decidable.not_not, Option.isNone_iff_eq_none, not_true_eq_false, not_false_eq_true] at hb); try (exfalso; omega))) | (refine v_cond rfl ?_ ?_ <;> (intro hb; (try simp only [decide_eq_true_eq, decide_eq_false_iff_not, Bool.not_eq_true', Bool.not_eq_false', ne_eq, Decidable.not_not, Option.isNone_iff_eq_none, not_true_eq_false, not_false_eq_true] at hb); try (exfalso; omega))) | fail)
  refine vl_o rfl (vo_call rfl rfl ?_)
  refine vc_mono (cunlikeG_vc w0 _ q p hq2 h) ?_
  rintro v L' ⟨rfl, rfl⟩
  by_cases hun : unC q p = true
  rotate_left
  · rw [if_neg (fun e => hun e.2), show unC q p = false by simpa using hun]
    repeat' (first | (refine go1 ?_; intros) | (refine vl_caseG rfl rfl rfl rfl ?_ ?_ <;> (intro hb; (try simp only [decide_eq_true_eq, decide_eq_false_iff_not, Bool.not_eq_true', Bool.not_eq_false', ne_eq, Decidable.not_not, Option.isNone_iff_eq_none, not_true_eq_false, not_false_eq_true] at hb); try (exfalso; omega))) | (refine v_cond rfl ?_ ?_ <;> (intro hb; (try simp only [decide_eq_true_eq, decide_eq_false_iff_not, Bool.not_eq_true', Bool.not_eq_false', ne_eq, Decidable.not_not, Option.isNone_iff_eq_none, not_true_eq_false, not_false_eq_true] at hb); try (exfalso; omega))) | fail)
    refine ⟨ownB none 0 [] :: ownB none 0 [] :: L, SE.ent (bad _ ?_) w0, none, 0, none, 0, rfl, rfl⟩
    exact SEI.out
  rw [if_pos ⟨hroot, hun⟩, hun]
  repeat' (first | (refine go1 ?_; intros) | (refine vl_caseG rfl rfl rfl rfl ?_ ?_ <;> (intro hb; (try simp only [decide_eq_true_eq, decide_eq_false_iff_not, Bool.not_eq_true', Bool.not_eq_false', ne_eq, Decidable.not_not, Option.isNone_iff_eq_none, not_true_eq_false, not_false_eq_true] at hb); try (exfalso; omega))) | (refine v_cond rfl ?_ ?_ <;> (intro hb; (try simp only [decide_eq_true_eq, decide_eq_false_iff_not, Bool.not_eq_true', Bool.not_eq_false', ne_eq, Decidable.not_not, Option.isNone_iff_eq_none, not_true_eq_false, not_false_eq_true] at hb); try (exfalso; omega))) | fail)
  refine vl_o rfl (vo_call rfl rfl ?_)
  refine vc_mono (cseekG_vc w0 _ q p hq2 h) ?_
  rintro v L' ⟨ax, cx, ay, cy, rfl, rfl⟩
  repeat' (first | (refine go1 ?_; intros) | (refine vl_caseG rfl rfl rfl rfl ?_ ?_ <;> (intro hb; (try simp only [decide_eq_true_eq, decide_eq_false_iff_not, Bool.not_eq_true', Bool.not_eq_false', ne_eq, Decidable.not_not, Option.isNone_iff_eq_none, not_true_eq_false, not_false_eq_true] at hb); try (exfalso; omega))) | (refine v_cond rfl ?_ ?_ <;> (intro hb; (try simp only [decide_eq_true_eq, decide_eq_false_iff_not, Bool.not_eq_true', Bool.not_eq_false', ne_eq, Decidable.not_not, Option.isNone_iff_eq_none, not_true_eq_false, not_false_eq_true] at hb); try (exfalso; omega))) | fail)
  exact ⟨_, sei _ _ (ownB ax cx (seekG q p).1 :: ownB ay cy (seekG q p).2.1 :: L), ax, cx, ay, cy, rfl, rfl⟩
end Go.Proofs.YtnoihibaoalkaaaDoor
