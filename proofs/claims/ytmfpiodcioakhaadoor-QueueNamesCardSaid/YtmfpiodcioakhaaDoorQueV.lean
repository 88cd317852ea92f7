/-
  Lines: the chapter's examples: the law.
-/
import Derived.Test.YtmfpiodcioakhaaDoorQueU
set_option linter.unusedVariables false
set_option linter.unusedSimpArgs false
namespace Go.Proofs.YtmfpiodcioakhaaDoor
open Go Go.RowKit
set_option linter.unusedVariables false
set_option linter.unusedSimpArgs false
open Classical

section
variable {P : Program} {w0 : World} {n : Nat} {ds : List Deferred} {fr : Fr} {L : List Asn} {dst : Option Nat} {ty : TypeId} {pos : String} {after : Array Edge} {gd : Option (Nat × Bool)}
/-- An array of which some elements are written out. -/
theorem vq_buildArrPQ {t e : TypeId} {agg : Bool} {size bytes m esize ebytes : Nat} {z ez cs : List Value} {parts : Array (Nat × Operand)} [ht : TyI P t true size bytes z] [hf : ArI P t e m agg esize ebytes ez] {vs : List (Nat × List Value)} (hv : evP fr parts.toList = some vs) (hok : ∀ p ∈ vs, okS ((List.range m).map fun i => (i * esize, esize)) size p) (hcs : fillS ((List.range m).map fun i => (i * esize, esize)) z vs = cs) : VQ P w0 n ⟨dst, .build t parts, ty, pos, after, gd⟩ (.agg cs.toArray) ds fr L :=
  vq_val (fun a w hk hs => run_buildArr t parts rfl ht hf vs (hk.partsP _ _ hv) hok cs hcs)
end
set_option maxRecDepth 100000 in
theorem zTx_byte : ((sha (tagB 4 [txBody zTx])).getD 0 0).toNat = 201 := by decide +kernel
theorem zTx_unsigned : zTx.sign ≠ sgn zTx := by
  intro e
  have h := zTx_byte
  rw [show sha (tagB 4 [txBody zTx]) = sgn zTx from rfl, ← e] at h
  simp [zTx, z32] at h
def pub1 : List UInt8 := 1 :: List.replicate 31 0
def tx1Q : Tx := ⟨pub1, z32, 0, 0, 0, z32⟩
theorem tx1Q_ok : tx1Q.ok := ⟨rfl, rfl, by decide, by decide, by decide, rfl⟩
set_option maxRecDepth 100000 in
theorem pub1_ne : sha (tagB 3 [pub1]) ≠ sha (tagB 3 [z32]) := by decide +kernel
theorem tx1Q_own : ownT (signed tx1Q) lineO = false := by
  unfold ownT
  rw [decide_eq_false (show ¬ sha (tagB 3 [(signed tx1Q).pub]) = lineO from pub1_ne), Bool.and_false]
theorem zTx_own (d : List UInt8) : ownT zTx d = false := by
  unfold ownT
  rw [decide_eq_false zTx_unsigned, Bool.false_and]
theorem names_put1 (a : Option Addr) (c : Nat) : putT (Ln.mk lineO a c lineX) (oneT 4 1) = (z32, [], [], 190) := by
  unfold putT
  rw [if_pos (line_may a c)]
  dsimp only
  rw [oneT_own, if_pos rfl, show atT lineX (oneT 4 1).nonce = some (oneT 4 1) from rfl]
  rfl
theorem names_put2 (a : Option Addr) (c : Nat) : putT (Ln.mk lineO a c lineX) (oneT 4 2) = (lineO, [oneT 3 1, oneT 4 2, oneT 6 1], [oneT 4 1], 0) := by
  unfold putT
  rw [if_pos (line_may a c)]
  dsimp only
  rw [oneT_own, if_pos rfl, show atT lineX (oneT 4 2).nonce = some (oneT 4 1) from rfl]
  rfl
theorem names_put3 (a : Option Addr) (c : Nat) : putT (Ln.mk lineO a c lineX) (signed tx1Q) = (z32, [], [], 2) := by
  unfold putT
  rw [if_pos (line_may a c)]
  dsimp only
  rw [tx1Q_own]
  rfl
def line4 : List Tx := [oneT 3 1, oneT 4 1, oneT 5 0, oneT 6 1]
theorem names_put4 (a : Option Addr) (c : Nat) : putT (Ln.mk lineO a c lineX) (oneT 5 0) = (lineO, line4, [], 0) := by
  unfold putT
  rw [if_pos (line_may a c)]
  dsimp only
  rw [oneT_own, if_pos rfl, show atT lineX (oneT 5 0).nonce = none from rfl]
  rfl
theorem line4_may (a : Option Addr) (c : Nat) : (Ln.mk lineO a c line4).may = true := by
  have h := may_with (line_may a c) (oneT_own 5 0) (show 4 ≤ 256 by decide) a c
  exact h
theorem line4_ready (a : Option Addr) (c : Nat) : readyQ (Ln.mk lineO a c line4) 3 = (line4, 0) := by
  unfold readyQ; rw [if_pos (line4_may a c)]; rfl
theorem bad_may (a : Option Addr) (c : Nat) : ¬ (Ln.mk z32 a c [zTx]).may = true := fun h => by
  have := (Ln.may_iff.1 h).2.1 zTx (by simp)
  rw [zTx_own] at this
  cases this
set_option maxRecDepth 100000 in
set_option maxHeartbeats 8000000 in
theorem queueNames_vc (w0 : World) [hK : RdA w0 (some ⟨0, 0, none⟩) (wds K64)] :
    VC Tryd.prog w0 10 [] [] fun v L' => v = .bool true := by
  have k41 := oneT_ok (n := 4) (f := 1) (by decide) (by decide)
  have k42 := oneT_ok (n := 4) (f := 2) (by decide) (by decide)
  have k50 := oneT_ok (n := 5) (f := 0) (by decide) (by decide)
  have h41 := Tx.len k41
  refine vc_in rfl rfl ?_
  repeat' (first | (refine go1 ?_; intros) | (refine vl_caseG rfl rfl rfl rfl ?_ ?_ <;> (intro hb; (try simp only [decide_eq_true_eq, decide_eq_false_iff_not, Bool.not_eq_true', Bool.not_eq_false', ne_eq, Decidable.not_not, Option.isNone_iff_eq_none, not_true_eq_false, not_false_eq_true] at hb); try (exfalso; omega))) | (refine v_cond rfl ?_ ?_ <;> (intro hb; (try simp only [decide_eq_true_eq, decide_eq_false_iff_not, Bool.not_eq_true', Bool.not_eq_false', ne_eq, Decidable.not_not, Option.isNone_iff_eq_none, not_true_eq_false, not_false_eq_true] at hb); try (exfalso; omega))) | fail)
  refine vl_o rfl (vo_call rfl rfl ?_)
  refine vc_mono (lline19_vc w0 _) ?_
  rintro v L' ⟨g1, rfl, rfl⟩
  repeat' (first | (refine go1 ?_; intros) | (refine vl_caseG rfl rfl rfl rfl ?_ ?_ <;> (intro hb; (try simp only [decide_eq_true_eq, decide_eq_false_iff_not, Bool.not_eq_true', Bool.not_eq_false', ne_eq, Decidable.not_not, Option.isNone_iff_eq_none, not_true_eq_false, not_false_eq_true] at hb); try (exfalso; omega))) | (refine v_cond rfl ?_ ?_ <;> (intro hb; (try simp only [decide_eq_true_eq, decide_eq_false_iff_not, Bool.not_eq_true', Bool.not_eq_false', ne_eq, Decidable.not_not, Option.isNone_iff_eq_none, not_true_eq_false, not_false_eq_true] at hb); try (exfalso; omega))) | fail)
  refine vl_o rfl (vo_call rfl rfl ?_)
  refine vc_mono (lone19_vc w0 _ 4 1 (by decide) (by decide)) ?_
  rintro v L' ⟨rfl, rfl⟩
  repeat' (first | (refine go1 ?_; intros) | (refine vl_caseG rfl rfl rfl rfl ?_ ?_ <;> (intro hb; (try simp only [decide_eq_true_eq, decide_eq_false_iff_not, Bool.not_eq_true', Bool.not_eq_false', ne_eq, Decidable.not_not, Option.isNone_iff_eq_none, not_true_eq_false, not_false_eq_true] at hb); try (exfalso; omega))) | (refine v_cond rfl ?_ ?_ <;> (intro hb; (try simp only [decide_eq_true_eq, decide_eq_false_iff_not, Bool.not_eq_true', Bool.not_eq_false', ne_eq, Decidable.not_not, Option.isNone_iff_eq_none, not_true_eq_false, not_false_eq_true] at hb); try (exfalso; omega))) | fail)
  refine vl_o rfl (vo_call rfl rfl ?_)
  refine vc_mono (qput_vc w0 _ (Ln.mk lineO (some ⟨g1, 0, none⟩) 3 lineX) (line_ok _ _) (oneT 4 1) k41) ?_
  rintro v L' ⟨a1, c1, b1, d1, rfl, rfl⟩
  rw [names_put1]
  dsimp only
  have hl1 := Ln.len (l := Ln.mk z32 a1 c1 []) rfl
  repeat' (first | (refine go1 ?_; intros) | (refine vl_caseG rfl rfl rfl rfl ?_ ?_ <;> (intro hb; (try simp only [decide_eq_true_eq, decide_eq_false_iff_not, Bool.not_eq_true', Bool.not_eq_false', ne_eq, Decidable.not_not, Option.isNone_iff_eq_none, not_true_eq_false, not_false_eq_true] at hb); try (exfalso; omega))) | (refine v_cond rfl ?_ ?_ <;> (intro hb; (try simp only [decide_eq_true_eq, decide_eq_false_iff_not, Bool.not_eq_true', Bool.not_eq_false', ne_eq, Decidable.not_not, Option.isNone_iff_eq_none, not_true_eq_false, not_false_eq_true] at hb); try (exfalso; omega))) | fail)
  refine vl_o rfl (vo_call rfl rfl ?_)
  refine vc_mono (lline19_vc w0 _) ?_
  rintro v L' ⟨g2, rfl, rfl⟩
  repeat' (first | (refine go1 ?_; intros) | (refine vl_caseG rfl rfl rfl rfl ?_ ?_ <;> (intro hb; (try simp only [decide_eq_true_eq, decide_eq_false_iff_not, Bool.not_eq_true', Bool.not_eq_false', ne_eq, Decidable.not_not, Option.isNone_iff_eq_none, not_true_eq_false, not_false_eq_true] at hb); try (exfalso; omega))) | (refine v_cond rfl ?_ ?_ <;> (intro hb; (try simp only [decide_eq_true_eq, decide_eq_false_iff_not, Bool.not_eq_true', Bool.not_eq_false', ne_eq, Decidable.not_not, Option.isNone_iff_eq_none, not_true_eq_false, not_false_eq_true] at hb); try (exfalso; omega))) | fail)
  refine vl_o rfl (vo_call rfl rfl ?_)
  refine vc_mono (lone19_vc w0 _ 4 2 (by decide) (by decide)) ?_
  rintro v L' ⟨rfl, rfl⟩
  repeat' (first | (refine go1 ?_; intros) | (refine vl_caseG rfl rfl rfl rfl ?_ ?_ <;> (intro hb; (try simp only [decide_eq_true_eq, decide_eq_false_iff_not, Bool.not_eq_true', Bool.not_eq_false', ne_eq, Decidable.not_not, Option.isNone_iff_eq_none, not_true_eq_false, not_false_eq_true] at hb); try (exfalso; omega))) | (refine v_cond rfl ?_ ?_ <;> (intro hb; (try simp only [decide_eq_true_eq, decide_eq_false_iff_not, Bool.not_eq_true', Bool.not_eq_false', ne_eq, Decidable.not_not, Option.isNone_iff_eq_none, not_true_eq_false, not_false_eq_true] at hb); try (exfalso; omega))) | fail)
  refine vl_o rfl (vo_call rfl rfl ?_)
  have hP2 := putT_ok (line_ok (some ⟨g2, 0, none⟩) 3) k42
  refine vc_mono (qput_vc w0 _ (Ln.mk lineO (some ⟨g2, 0, none⟩) 3 lineX) (line_ok _ _) (oneT 4 2) k42) ?_
  rintro v L' ⟨a2, c2, b2, d2, rfl, rfl⟩
  rw [names_put2] at hP2 ⊢
  dsimp only
  have hl2 := Ln.len (l := Ln.mk lineO a2 c2 [oneT 3 1, oneT 4 2, oneT 6 1]) lineO_len
  have hf2 : (Ln.mk lineO a2 c2 [oneT 3 1, oneT 4 2, oneT 6 1]).cells[0 + 32]? = some (.slice a2 3 c2) := Ln.f1 (l := Ln.mk lineO a2 c2 [oneT 3 1, oneT 4 2, oneT 6 1]) lineO_len
  repeat' (first | (refine go1 ?_; intros) | (refine vl_caseG rfl rfl rfl rfl ?_ ?_ <;> (intro hb; (try simp only [decide_eq_true_eq, decide_eq_false_iff_not, Bool.not_eq_true', Bool.not_eq_false', ne_eq, Decidable.not_not, Option.isNone_iff_eq_none, not_true_eq_false, not_false_eq_true] at hb); try (exfalso; omega))) | (refine v_cond rfl ?_ ?_ <;> (intro hb; (try simp only [decide_eq_true_eq, decide_eq_false_iff_not, Bool.not_eq_true', Bool.not_eq_false', ne_eq, Decidable.not_not, Option.isNone_iff_eq_none, not_true_eq_false, not_false_eq_true] at hb); try (exfalso; omega))) | fail)
  refine vl_o rfl (vo_call rfl rfl ?_)
  refine vc_mono (lline19_vc w0 _) ?_
  rintro v L' ⟨g3, rfl, rfl⟩
  repeat' (first | (refine goB ?_; intros) | (refine vl_caseG rfl rfl rfl rfl ?_ ?_ <;> (intro hb; (try simp only [decide_eq_true_eq, decide_eq_false_iff_not, Bool.not_eq_true', Bool.not_eq_false', ne_eq, Decidable.not_not, Option.isNone_iff_eq_none, not_true_eq_false, not_false_eq_true] at hb); try (exfalso; omega))) | (refine v_cond rfl ?_ ?_ <;> (intro hb; (try simp only [decide_eq_true_eq, decide_eq_false_iff_not, Bool.not_eq_true', Bool.not_eq_false', ne_eq, Decidable.not_not, Option.isNone_iff_eq_none, not_true_eq_false, not_false_eq_true] at hb); try (exfalso; omega))) | fail)
  refine vl_q rfl rfl rfl rfl (vq_buildArrPQ (cs := bvs pub1) rfl (by simp [okS, Value.cells]) rfl) ?_
  repeat' (first | (refine goB ?_; intros) | (refine vl_caseG rfl rfl rfl rfl ?_ ?_ <;> (intro hb; (try simp only [decide_eq_true_eq, decide_eq_false_iff_not, Bool.not_eq_true', Bool.not_eq_false', ne_eq, Decidable.not_not, Option.isNone_iff_eq_none, not_true_eq_false, not_false_eq_true] at hb); try (exfalso; omega))) | (refine v_cond rfl ?_ ?_ <;> (intro hb; (try simp only [decide_eq_true_eq, decide_eq_false_iff_not, Bool.not_eq_true', Bool.not_eq_false', ne_eq, Decidable.not_not, Option.isNone_iff_eq_none, not_true_eq_false, not_false_eq_true] at hb); try (exfalso; omega))) | fail)
  refine vl_q rfl rfl rfl rfl (vq_buildP (cs := tx1Q.cells) rfl (by simp [okS, Value.cells, pub1]) rfl) ?_
  have hq1 := Tx.len tx1Q_ok
  repeat' (first | (refine go1 ?_; intros) | (refine vl_caseG rfl rfl rfl rfl ?_ ?_ <;> (intro hb; (try simp only [decide_eq_true_eq, decide_eq_false_iff_not, Bool.not_eq_true', Bool.not_eq_false', ne_eq, Decidable.not_not, Option.isNone_iff_eq_none, not_true_eq_false, not_false_eq_true] at hb); try (exfalso; omega))) | (refine v_cond rfl ?_ ?_ <;> (intro hb; (try simp only [decide_eq_true_eq, decide_eq_false_iff_not, Bool.not_eq_true', Bool.not_eq_false', ne_eq, Decidable.not_not, Option.isNone_iff_eq_none, not_true_eq_false, not_false_eq_true] at hb); try (exfalso; omega))) | fail)
  refine vl_o rfl (vo_call rfl rfl ?_)
  refine vc_mono (txSign_vc w0 _ tx1Q tx1Q_ok) ?_
  rintro v L' ⟨rfl, rfl⟩
  repeat' (first | (refine go1 ?_; intros) | (refine vl_caseG rfl rfl rfl rfl ?_ ?_ <;> (intro hb; (try simp only [decide_eq_true_eq, decide_eq_false_iff_not, Bool.not_eq_true', Bool.not_eq_false', ne_eq, Decidable.not_not, Option.isNone_iff_eq_none, not_true_eq_false, not_false_eq_true] at hb); try (exfalso; omega))) | (refine v_cond rfl ?_ ?_ <;> (intro hb; (try simp only [decide_eq_true_eq, decide_eq_false_iff_not, Bool.not_eq_true', Bool.not_eq_false', ne_eq, Decidable.not_not, Option.isNone_iff_eq_none, not_true_eq_false, not_false_eq_true] at hb); try (exfalso; omega))) | fail)
  refine vl_o rfl (vo_call rfl rfl ?_)
  refine vc_mono (qput_vc w0 _ (Ln.mk lineO (some ⟨g3, 0, none⟩) 3 lineX) (line_ok _ _) (signed tx1Q) tx1Q_ok.signed) ?_
  rintro v L' ⟨a3, c3, b3, d3, rfl, rfl⟩
  rw [names_put3]
  dsimp only
  have hl3 := Ln.len (l := Ln.mk z32 a3 c3 []) rfl
  repeat' (first | (refine go1 ?_; intros) | (refine vl_caseG rfl rfl rfl rfl ?_ ?_ <;> (intro hb; (try simp only [decide_eq_true_eq, decide_eq_false_iff_not, Bool.not_eq_true', Bool.not_eq_false', ne_eq, Decidable.not_not, Option.isNone_iff_eq_none, not_true_eq_false, not_false_eq_true] at hb); try (exfalso; omega))) | (refine v_cond rfl ?_ ?_ <;> (intro hb; (try simp only [decide_eq_true_eq, decide_eq_false_iff_not, Bool.not_eq_true', Bool.not_eq_false', ne_eq, Decidable.not_not, Option.isNone_iff_eq_none, not_true_eq_false, not_false_eq_true] at hb); try (exfalso; omega))) | fail)
  refine vl_o rfl (vo_call rfl rfl ?_)
  refine vc_mono (lline19_vc w0 _) ?_
  rintro v L' ⟨g4, rfl, rfl⟩
  repeat' (first | (refine go1 ?_; intros) | (refine vl_caseG rfl rfl rfl rfl ?_ ?_ <;> (intro hb; (try simp only [decide_eq_true_eq, decide_eq_false_iff_not, Bool.not_eq_true', Bool.not_eq_false', ne_eq, Decidable.not_not, Option.isNone_iff_eq_none, not_true_eq_false, not_false_eq_true] at hb); try (exfalso; omega))) | (refine v_cond rfl ?_ ?_ <;> (intro hb; (try simp only [decide_eq_true_eq, decide_eq_false_iff_not, Bool.not_eq_true', Bool.not_eq_false', ne_eq, Decidable.not_not, Option.isNone_iff_eq_none, not_true_eq_false, not_false_eq_true] at hb); try (exfalso; omega))) | fail)
  refine vl_o rfl (vo_call rfl rfl ?_)
  refine vc_mono (lone19_vc w0 _ 5 0 (by decide) (by decide)) ?_
  rintro v L' ⟨rfl, rfl⟩
  repeat' (first | (refine go1 ?_; intros) | (refine vl_caseG rfl rfl rfl rfl ?_ ?_ <;> (intro hb; (try simp only [decide_eq_true_eq, decide_eq_false_iff_not, Bool.not_eq_true', Bool.not_eq_false', ne_eq, Decidable.not_not, Option.isNone_iff_eq_none, not_true_eq_false, not_false_eq_true] at hb); try (exfalso; omega))) | (refine v_cond rfl ?_ ?_ <;> (intro hb; (try simp only [decide_eq_true_eq, decide_eq_false_iff_not, Bool.not_eq_true', Bool.not_eq_false', ne_eq, Decidable.not_not, Option.isNone_iff_eq_none, not_true_eq_false, not_false_eq_true] at hb); try (exfalso; omega))) | fail)
  refine vl_o rfl (vo_call rfl rfl ?_)
  have hP4 := putT_ok (line_ok (some ⟨g4, 0, none⟩) 3) k50
  refine vc_mono (qput_vc w0 _ (Ln.mk lineO (some ⟨g4, 0, none⟩) 3 lineX) (line_ok _ _) (oneT 5 0) k50) ?_
  rintro v L' ⟨a4, c4, b4, d4, rfl, rfl⟩
  rw [names_put4] at hP4 ⊢
  dsimp only
  refine vl_know (φ := line4.length ≤ c4) (fun w hs => (hs.ownLen 1 rfl).2.1) (fun hc4 => ?_)
  have hok4 : (Ln.mk lineO a4 c4 line4).ok := ⟨lineO_len, hP4.xs⟩
  have hl4 := Ln.len (l := Ln.mk lineO a4 c4 line4) lineO_len
  repeat' (first | (refine go1 ?_; intros) | (refine vl_caseG rfl rfl rfl rfl ?_ ?_ <;> (intro hb; (try simp only [decide_eq_true_eq, decide_eq_false_iff_not, Bool.not_eq_true', Bool.not_eq_false', ne_eq, Decidable.not_not, Option.isNone_iff_eq_none, not_true_eq_false, not_false_eq_true] at hb); try (exfalso; omega))) | (refine v_cond rfl ?_ ?_ <;> (intro hb; (try simp only [decide_eq_true_eq, decide_eq_false_iff_not, Bool.not_eq_true', Bool.not_eq_false', ne_eq, Decidable.not_not, Option.isNone_iff_eq_none, not_true_eq_false, not_false_eq_true] at hb); try (exfalso; omega))) | fail)
  refine vl_o rfl (vo_call rfl rfl ?_)
  refine vc_mono (qready_vc w0 _ (Ln.mk lineO a4 c4 line4) hok4 hc4 3 (by decide)) ?_
  rintro v L' ⟨a5, c5, rfl, rfl⟩
  rw [line4_ready]
  dsimp only
  repeat' (first | (refine go1 ?_; intros) | (refine vl_caseG rfl rfl rfl rfl ?_ ?_ <;> (intro hb; (try simp only [decide_eq_true_eq, decide_eq_false_iff_not, Bool.not_eq_true', Bool.not_eq_false', ne_eq, Decidable.not_not, Option.isNone_iff_eq_none, not_true_eq_false, not_false_eq_true] at hb); try (exfalso; omega))) | (refine v_cond rfl ?_ ?_ <;> (intro hb; (try simp only [decide_eq_true_eq, decide_eq_false_iff_not, Bool.not_eq_true', Bool.not_eq_false', ne_eq, Decidable.not_not, Option.isNone_iff_eq_none, not_true_eq_false, not_false_eq_true] at hb); try (exfalso; omega))) | fail)
  refine vl_o rfl (vo_call rfl rfl ?_)
  refine vc_mono (lalive19_vc w0 _) ?_
  rintro v L' ⟨rfl, rfl⟩
  repeat' (first | (refine goE ?_; intros) | (refine vl_caseG rfl rfl rfl rfl ?_ ?_ <;> (intro hb; (try simp only [decide_eq_true_eq, decide_eq_false_iff_not, Bool.not_eq_true', Bool.not_eq_false', ne_eq, Decidable.not_not, Option.isNone_iff_eq_none, not_true_eq_false, not_false_eq_true] at hb); try (exfalso; omega))) | (refine v_cond rfl ?_ ?_ <;> (intro hb; (try simp only [decide_eq_true_eq, decide_eq_false_iff_not, Bool.not_eq_true', Bool.not_eq_false', ne_eq, Decidable.not_not, Option.isNone_iff_eq_none, not_true_eq_false, not_false_eq_true] at hb); try (exfalso; omega))) | fail)
  refine vl_o rfl (vo_call rfl rfl ?_)
  refine vc_mono (lone19_vc w0 _ 4 1 (by decide) (by decide)) ?_
  rintro v L' ⟨rfl, rfl⟩
  have t1 : TsOk [oneT 4 1] := TsOk.one k41
  have hfl1 : txc [oneT 4 1] = (oneT 4 1).cells ++ [] := rfl
  repeat' (first | (refine goE ?_; intros) | (refine vl_caseG rfl rfl rfl rfl ?_ ?_ <;> (intro hb; (try simp only [decide_eq_true_eq, decide_eq_false_iff_not, Bool.not_eq_true', Bool.not_eq_false', ne_eq, Decidable.not_not, Option.isNone_iff_eq_none, not_true_eq_false, not_false_eq_true] at hb); try (exfalso; omega))) | (refine v_cond rfl ?_ ?_ <;> (intro hb; (try simp only [decide_eq_true_eq, decide_eq_false_iff_not, Bool.not_eq_true', Bool.not_eq_false', ne_eq, Decidable.not_not, Option.isNone_iff_eq_none, not_true_eq_false, not_false_eq_true] at hb); try (exfalso; omega))) | fail)
  refine vl_o rfl (vo_call rfl rfl ?_)
  rename_i gt
  rw [← hfl1]
  refine vc_mono (rsameTs_vc w0 _ b2 d2 [oneT 4 1] (some ⟨gt, 0, none⟩) 1 [oneT 4 1] rfl rfl t1 t1) ?_
  rintro v L' ⟨rfl, rfl⟩
  rw [decide_eq_true (Eq.refl [oneT 4 1])]
  have hl44 : line4.length = 4 := rfl
  rw [hl44]
  repeat' (first | (refine goE ?_; intros) | (refine vl_caseG rfl rfl rfl rfl ?_ ?_ <;> (intro hb; (try simp only [decide_eq_true_eq, decide_eq_false_iff_not, Bool.not_eq_true', Bool.not_eq_false', ne_eq, Decidable.not_not, Option.isNone_iff_eq_none, not_true_eq_false, not_false_eq_true] at hb); try (exfalso; omega))) | (refine v_cond rfl ?_ ?_ <;> (intro hb; (try simp only [decide_eq_true_eq, decide_eq_false_iff_not, Bool.not_eq_true', Bool.not_eq_false', ne_eq, Decidable.not_not, Option.isNone_iff_eq_none, not_true_eq_false, not_false_eq_true] at hb); try (exfalso; omega))) | fail)
  rename_i gb
  refine vl_o rfl (vo_call rfl rfl ?_)
  show VC _ _ _ [.agg (Ln.mk z32 (some ⟨gb, 0, none⟩) 1 [zTx]).cells.toArray] (ownTs (some ⟨gb, 0, none⟩) 1 [zTx] :: _) _
  refine vc_mono (qcheck_vc w0 _ (Ln.mk z32 (some ⟨gb, 0, none⟩) 1 [zTx]) ⟨rfl, TsOk.one zTx_ok⟩) ?_
  rintro v L' ⟨rfl, rfl⟩
  rw [if_neg (bad_may _ _)]
  repeat' (first | (refine goE ?_; intros) | (refine vl_caseG rfl rfl rfl rfl ?_ ?_ <;> (intro hb; (try simp only [decide_eq_true_eq, decide_eq_false_iff_not, Bool.not_eq_true', Bool.not_eq_false', ne_eq, Decidable.not_not, Option.isNone_iff_eq_none, not_true_eq_false, not_false_eq_true] at hb); try (exfalso; omega))) | (refine v_cond rfl ?_ ?_ <;> (intro hb; (try simp only [decide_eq_true_eq, decide_eq_false_iff_not, Bool.not_eq_true', Bool.not_eq_false', ne_eq, Decidable.not_not, Option.isNone_iff_eq_none, not_true_eq_false, not_false_eq_true] at hb); try (exfalso; omega))) | fail)
  exact rfl
end Go.Proofs.YtmfpiodcioakhaaDoor
