/-
  The chapter's examples of trees: the statement's law.
-/
import Derived.Test.YtmaimkbppnpbnaaDoorTNaA
import Derived.Test.YtmaimkbppnpbnaaDoorTPtD
set_option linter.unusedVariables false
set_option linter.unusedSimpArgs false
namespace Go.Proofs.YtmaimkbppnpbnaaDoor
open Go Go.RowKit
set_option linter.unusedVariables false
set_option linter.unusedSimpArgs false
open Classical

theorem nm6_drop : dropF [(dk 3, [97])] (dk 3) = [] := by simp [dropF]
theorem nm6_has : has [(dk 3, [97])] (dk 3) = true := by simp [has]
/-- A leaf of the examples, and a node that is none. -/
def ndL (g : Nat) : Nd := ⟨true, dk 3, some ⟨g, 0, none⟩, 1, [97], 0, 0⟩
def ndF (l : Int) : Nd := ⟨false, z32, none, 0, [], l, 0⟩
theorem ndL_len (g : Nat) : (ndL g).cells.length = 36 := Nd.len (dk_len 3)
theorem ndF_len (l : Int) : (ndF l).cells.length = 36 := Nd.len rfl
theorem bad1 : ¬ MayP [ndF 0] 1 := fun h => by
  have := h.ones 0 _ rfl
  simp [oneP, ndF] at this
theorem bad2 (g : Nat) : ¬ MayP [ndL g, ndF 1] 2 := fun h => by
  have h1 := h.right
  rw [show Int.toNat 2 = 1 + 1 from rfl, rightP_at (x := ndF 1) rfl] at h1
  have e0 : rightP [ndL g, ndF 1] ((ndF 1).r 1) (0 + 1) (flipB zb 0) = 0 := by rw [show (ndF 1).r 1 = 0 from rfl, rightP]
  have e1 : rightP [ndL g, ndF 1] ((ndF 1).l 1) (0 + 1) zb ≤ 1 := by
    rw [show (ndF 1).l 1 = 0 + 1 from rfl, rightP_at (x := ndL g) rfl, if_pos (show (ndL g).leaf = true from rfl)]
    split <;> decide
  rw [e0, if_neg (by simp [ndF]), if_neg (by decide)] at h1
  split at h1
  · exact absurd h1 (by decide)
  · rw [if_pos (.inr (by omega))] at h1
    exact absurd h1 (by decide)
theorem good1 (g : Nat) : MayP [ndL g] 1 := by
  refine ⟨by simp, by decide, by simp, fun i x hx => ?_, ?_⟩
  · cases i with
    | zero =>
      simp only [List.getElem?_cons_zero, Option.some.injEq] at hx
      subst hx
      unfold oneP
      rw [if_pos (show (ndL g).leaf = true from rfl)]
      exact ⟨(by decide : okVal 1 = true), rfl, rfl⟩
    | succ i => simp at hx
  · rw [show Int.toNat 1 = 0 + 1 from rfl, rightP_at (x := ndL g) rfl, if_pos (show (ndL g).leaf = true from rfl), if_pos (fun m hm => absurd hm (by omega))]
    decide
theorem ndL_ok (g : Nat) : NsOk [ndL g] := ⟨fun p hp => by rcases List.mem_singleton.1 hp with rfl; exact dk_len 3, fun p hp => by rcases List.mem_singleton.1 hp with rfl; show [(97 : UInt8)].length ≤ _; decide, by simp⟩
theorem ndF_ok (l : Int) : NsOk [ndF l] := ⟨fun p hp => by rcases List.mem_singleton.1 hp with rfl; rfl, fun p hp => by rcases List.mem_singleton.1 hp with rfl; show ([] : List UInt8).length ≤ _; decide, by simp⟩
theorem ndLF_ok (g : Nat) (l : Int) : NsOk [ndL g, ndF l] := by
  have h1 := ndL_ok g
  have h2 := ndF_ok l
  refine ⟨fun p hp => ?_, fun p hp => ?_, by simp⟩
  · rcases List.mem_cons.1 hp with rfl | hp
    · exact h1.key _ (by simp)
    · exact h2.key _ hp
  · rcases List.mem_cons.1 hp with rfl | hp
    · exact h1.vl _ (by simp)
    · exact h2.vl _ hp
theorem ndL_fill (g : Nat) : fillS [(0, 1), (1, 32), (33, 1), (34, 1), (35, 1)] (Value.bool false :: (bvs (List.replicate 32 0) ++ [.slice none 0 0, .int .i64 0, .int .i64 0])) [(0, [.bool true]), (1, bvs (dk 3)), (2, [.slice (some ⟨g, 0, none⟩) 1 1])] = (ndL g).cells := by
  simp [fillS, splice, dk_len, ndL, Nd.cells, List.drop_append, List.drop_of_length_le, List.take_append]
theorem ndF_fill (l : Int) : fillS [(0, 1), (1, 32), (33, 1), (34, 1), (35, 1)] (Value.bool false :: (bvs (List.replicate 32 0) ++ [.slice none 0 0, .int .i64 0, .int .i64 0])) [(3, [.int .i64 l])] = (ndF l).cells := rfl
set_option maxRecDepth 100000 in
set_option maxHeartbeats 8000000 in
theorem treeNames_vc (w0 : World) [hK : RdA w0 (some ⟨0, 0, none⟩) (wds K64)] :
    VC Tryd.prog w0 5 [] [] fun v L' => v = .bool true := by
  have k3 := dk_len 3
  refine vc_in rfl rfl ?_
  repeat' (first | (refine goB ?_; intros) | (refine vl_caseG rfl rfl rfl rfl ?_ ?_ <;> (intro hb; (try simp only [decide_eq_true_eq, decide_eq_false_iff_not, Bool.not_eq_true', Bool.not_eq_false', ne_eq, Decidable.not_not, Option.isNone_iff_eq_none, not_true_eq_false, not_false_eq_true] at hb); try (exfalso; omega))) | (refine v_cond rfl ?_ ?_ <;> (intro hb; (try simp only [decide_eq_true_eq, decide_eq_false_iff_not, Bool.not_eq_true', Bool.not_eq_false', ne_eq, Decidable.not_not, Option.isNone_iff_eq_none, not_true_eq_false, not_false_eq_true] at hb); try (exfalso; omega))) | fail)
  refine vl_q rfl rfl rfl rfl (vq_dk (c := 3) rfl) ?_
  repeat' (first | (refine goB ?_; intros) | (refine vl_caseG rfl rfl rfl rfl ?_ ?_ <;> (intro hb; (try simp only [decide_eq_true_eq, decide_eq_false_iff_not, Bool.not_eq_true', Bool.not_eq_false', ne_eq, Decidable.not_not, Option.isNone_iff_eq_none, not_true_eq_false, not_false_eq_true] at hb); try (exfalso; omega))) | (refine v_cond rfl ?_ ?_ <;> (intro hb; (try simp only [decide_eq_true_eq, decide_eq_false_iff_not, Bool.not_eq_true', Bool.not_eq_false', ne_eq, Decidable.not_not, Option.isNone_iff_eq_none, not_true_eq_false, not_false_eq_true] at hb); try (exfalso; omega))) | fail)
  rename_i g1
  haveI hrv : ∀ M, RdC w0 (rd (some ⟨g1, 0, none⟩) [.int .u8 97] :: M) (some ⟨g1, 0, none⟩) (bvs [97]) := fun M => (inferInstance : RdC w0 _ _ [.int .u8 97])
  refine vl_o rfl (vo_call rfl rfl ?_)
  refine vc_mono (tput_vc (hr := rdC_nil _ _ _) (hv := rdNs_nil _ _) w0 _ none 0 [] 0 (dk 3) _ _ [97] rfl rfl nsOk_nil k3 (by decide)) ?_
  rintro v L' ⟨a2, c2, es, s, rfl, hes, rfl⟩
  have e0 : tputE [] 0 [97] = 0 := by
    unfold tputE
    rw [if_pos ⟨tw_may, by decide⟩]
    rfl
  rw [e0, if_pos rfl, show forP [] (Int.toNat 0) = [] by rw [show Int.toNat 0 = 0 from rfl, forP], tw_put1] at hes
  rw [e0]
  have hl1 := hes.one rfl
  refine vl_ent (L' := ownNs a2 c2 es :: vnA es :: []) (sei _ _ _) ?_
  repeat' (first | (refine goB ?_; intros) | (refine vl_caseG rfl rfl rfl rfl ?_ ?_ <;> (intro hb; (try simp only [decide_eq_true_eq, decide_eq_false_iff_not, Bool.not_eq_true', Bool.not_eq_false', ne_eq, Decidable.not_not, Option.isNone_iff_eq_none, not_true_eq_false, not_false_eq_true] at hb); try (exfalso; omega))) | (refine v_cond rfl ?_ ?_ <;> (intro hb; (try simp only [decide_eq_true_eq, decide_eq_false_iff_not, Bool.not_eq_true', Bool.not_eq_false', ne_eq, Decidable.not_not, Option.isNone_iff_eq_none, not_true_eq_false, not_false_eq_true] at hb); try (exfalso; omega))) | fail)
  refine vl_q rfl rfl rfl rfl (vq_dk (c := 3) rfl) ?_
  repeat' (first | (refine goB ?_; intros) | (refine vl_caseG rfl rfl rfl rfl ?_ ?_ <;> (intro hb; (try simp only [decide_eq_true_eq, decide_eq_false_iff_not, Bool.not_eq_true', Bool.not_eq_false', ne_eq, Decidable.not_not, Option.isNone_iff_eq_none, not_true_eq_false, not_false_eq_true] at hb); try (exfalso; omega))) | (refine v_cond rfl ?_ ?_ <;> (intro hb; (try simp only [decide_eq_true_eq, decide_eq_false_iff_not, Bool.not_eq_true', Bool.not_eq_false', ne_eq, Decidable.not_not, Option.isNone_iff_eq_none, not_true_eq_false, not_false_eq_true] at hb); try (exfalso; omega))) | fail)
  refine vl_o rfl (vo_call rfl rfl ?_)
  refine vc_mono (tdrop_vc w0 _ a2 c2 es s (dk 3) rfl hes.ok k3 (by omega)) ?_
  rintro v L' ⟨a3, c3, fs, t, rfl, hfs, rfl⟩
  have e1 : tdropE es s (dk 3) = 0 := by
    unfold tdropE
    rw [if_pos hes.may, hes.for', if_pos nm6_has, if_neg (by omega)]
  rw [e1, if_pos rfl, hes.for', nm6_drop] at hfs
  rw [e1]
  have hl3 := hfs.len2
  repeat' (first | (refine goB ?_; intros) | (refine vl_caseG rfl rfl rfl rfl ?_ ?_ <;> (intro hb; (try simp only [decide_eq_true_eq, decide_eq_false_iff_not, Bool.not_eq_true', Bool.not_eq_false', ne_eq, Decidable.not_not, Option.isNone_iff_eq_none, not_true_eq_false, not_false_eq_true] at hb); try (exfalso; omega))) | (refine v_cond rfl ?_ ?_ <;> (intro hb; (try simp only [decide_eq_true_eq, decide_eq_false_iff_not, Bool.not_eq_true', Bool.not_eq_false', ne_eq, Decidable.not_not, Option.isNone_iff_eq_none, not_true_eq_false, not_false_eq_true] at hb); try (exfalso; omega))) | fail)
  refine vl_o rfl (vo_call rfl rfl ?_)
  refine vc_mono (tpairs_vc w0 _ a3 c3 fs t rfl hfs.ok) ?_
  rintro v L' ⟨x, rfl, a4, c4, ps, rfl, hps, rfl⟩
  rw [if_pos hfs.may, hfs.for'] at hps
  rw [if_pos hfs.may]
  have hp0 : ps = [] := List.map_eq_nil_iff.1 hps
  subst hp0
  rw [show ([] : List PR).length = 0 from rfl]
  repeat' (first | (refine goB ?_; intros) | (refine vl_caseG rfl rfl rfl rfl ?_ ?_ <;> (intro hb; (try simp only [decide_eq_true_eq, decide_eq_false_iff_not, Bool.not_eq_true', Bool.not_eq_false', ne_eq, Decidable.not_not, Option.isNone_iff_eq_none, not_true_eq_false, not_false_eq_true] at hb); try (exfalso; omega))) | (refine v_cond rfl ?_ ?_ <;> (intro hb; (try simp only [decide_eq_true_eq, decide_eq_false_iff_not, Bool.not_eq_true', Bool.not_eq_false', ne_eq, Decidable.not_not, Option.isNone_iff_eq_none, not_true_eq_false, not_false_eq_true] at hb); try (exfalso; omega))) | fail)
  refine vl_q rfl rfl rfl rfl (vq_dk (c := 3) rfl) ?_
  repeat' (first | (refine goB ?_; intros) | (refine vl_caseG rfl rfl rfl rfl ?_ ?_ <;> (intro hb; (try simp only [decide_eq_true_eq, decide_eq_false_iff_not, Bool.not_eq_true', Bool.not_eq_false', ne_eq, Decidable.not_not, Option.isNone_iff_eq_none, not_true_eq_false, not_false_eq_true] at hb); try (exfalso; omega))) | (refine v_cond rfl ?_ ?_ <;> (intro hb; (try simp only [decide_eq_true_eq, decide_eq_false_iff_not, Bool.not_eq_true', Bool.not_eq_false', ne_eq, Decidable.not_not, Option.isNone_iff_eq_none, not_true_eq_false, not_false_eq_true] at hb); try (exfalso; omega))) | fail)
  refine vl_o rfl (vo_call rfl rfl ?_)
  refine vc_mono (tdrop_vc w0 _ a3 c3 fs t (dk 3) rfl hfs.ok k3 (by omega)) ?_
  rintro v L' ⟨a5, c5, gs, u, rfl, hgs, rfl⟩
  have e2 : tdropE fs t (dk 3) = 6 := by
    unfold tdropE
    rw [if_pos hfs.may, hfs.for', if_neg (by simp [has])]
  rw [e2]
  repeat' (first | (refine goB ?_; intros) | (refine vl_caseG rfl rfl rfl rfl ?_ ?_ <;> (intro hb; (try simp only [decide_eq_true_eq, decide_eq_false_iff_not, Bool.not_eq_true', Bool.not_eq_false', ne_eq, Decidable.not_not, Option.isNone_iff_eq_none, not_true_eq_false, not_false_eq_true] at hb); try (exfalso; omega))) | (refine v_cond rfl ?_ ?_ <;> (intro hb; (try simp only [decide_eq_true_eq, decide_eq_false_iff_not, Bool.not_eq_true', Bool.not_eq_false', ne_eq, Decidable.not_not, Option.isNone_iff_eq_none, not_true_eq_false, not_false_eq_true] at hb); try (exfalso; omega))) | fail)
  refine vl_q rfl rfl rfl rfl (vq_dk (c := 3) rfl) ?_
  repeat' (first | (refine goB ?_; intros) | (refine vl_caseG rfl rfl rfl rfl ?_ ?_ <;> (intro hb; (try simp only [decide_eq_true_eq, decide_eq_false_iff_not, Bool.not_eq_true', Bool.not_eq_false', ne_eq, Decidable.not_not, Option.isNone_iff_eq_none, not_true_eq_false, not_false_eq_true] at hb); try (exfalso; omega))) | (refine v_cond rfl ?_ ?_ <;> (intro hb; (try simp only [decide_eq_true_eq, decide_eq_false_iff_not, Bool.not_eq_true', Bool.not_eq_false', ne_eq, Decidable.not_not, Option.isNone_iff_eq_none, not_true_eq_false, not_false_eq_true] at hb); try (exfalso; omega))) | fail)
  rename_i gb
  refine vl_q rfl rfl rfl rfl (vq_buildP (cs := (ndL gb).cells) rfl (by simp [okS, Value.cells, k3]) (ndL_fill gb)) ?_
  have lL := ndL_len gb
  repeat' (first | (refine goB ?_; intros) | (refine vl_caseG rfl rfl rfl rfl ?_ ?_ <;> (intro hb; (try simp only [decide_eq_true_eq, decide_eq_false_iff_not, Bool.not_eq_true', Bool.not_eq_false', ne_eq, Decidable.not_not, Option.isNone_iff_eq_none, not_true_eq_false, not_false_eq_true] at hb); try (exfalso; omega))) | (refine v_cond rfl ?_ ?_ <;> (intro hb; (try simp only [decide_eq_true_eq, decide_eq_false_iff_not, Bool.not_eq_true', Bool.not_eq_false', ne_eq, Decidable.not_not, Option.isNone_iff_eq_none, not_true_eq_false, not_false_eq_true] at hb); try (exfalso; omega))) | fail)
  rename_i g9 g10
  rw [show ((Value.bool false :: (bvs (List.replicate 32 0) ++ [Value.slice none 0 0, Value.int IntKind.i64 0, Value.int IntKind.i64 0])) ++ [] : List Value) = ndc [ndF 0] from rfl]
  repeat' (first | (refine go1 ?_; intros) | (refine vl_caseG rfl rfl rfl rfl ?_ ?_ <;> (intro hb; (try simp only [decide_eq_true_eq, decide_eq_false_iff_not, Bool.not_eq_true', Bool.not_eq_false', ne_eq, Decidable.not_not, Option.isNone_iff_eq_none, not_true_eq_false, not_false_eq_true] at hb); try (exfalso; omega))) | (refine v_cond rfl ?_ ?_ <;> (intro hb; (try simp only [decide_eq_true_eq, decide_eq_false_iff_not, Bool.not_eq_true', Bool.not_eq_false', ne_eq, Decidable.not_not, Option.isNone_iff_eq_none, not_true_eq_false, not_false_eq_true] at hb); try (exfalso; omega))) | fail)
  refine vl_o rfl (vo_call rfl rfl ?_)
  refine vc_mono (tcheck_vc w0 _ (some ⟨g10, 0, none⟩) 1 [ndF 0] 1 rfl (ndF_ok 0)) ?_
  rintro v L' ⟨rfl, rfl⟩
  rw [if_neg bad1]
  repeat' (first | (refine goB ?_; intros) | (refine vl_caseG rfl rfl rfl rfl ?_ ?_ <;> (intro hb; (try simp only [decide_eq_true_eq, decide_eq_false_iff_not, Bool.not_eq_true', Bool.not_eq_false', ne_eq, Decidable.not_not, Option.isNone_iff_eq_none, not_true_eq_false, not_false_eq_true] at hb); try (exfalso; omega))) | (refine v_cond rfl ?_ ?_ <;> (intro hb; (try simp only [decide_eq_true_eq, decide_eq_false_iff_not, Bool.not_eq_true', Bool.not_eq_false', ne_eq, Decidable.not_not, Option.isNone_iff_eq_none, not_true_eq_false, not_false_eq_true] at hb); try (exfalso; omega))) | fail)
  refine vl_q rfl rfl rfl rfl (vq_buildP (cs := (ndF 1).cells) rfl (by simp [okS, Value.cells]) (ndF_fill 1)) ?_
  have lF := ndF_len 1
  repeat' (first | (refine goB ?_; intros) | (refine vl_caseG rfl rfl rfl rfl ?_ ?_ <;> (intro hb; (try simp only [decide_eq_true_eq, decide_eq_false_iff_not, Bool.not_eq_true', Bool.not_eq_false', ne_eq, Decidable.not_not, Option.isNone_iff_eq_none, not_true_eq_false, not_false_eq_true] at hb); try (exfalso; omega))) | (refine v_cond rfl ?_ ?_ <;> (intro hb; (try simp only [decide_eq_true_eq, decide_eq_false_iff_not, Bool.not_eq_true', Bool.not_eq_false', ne_eq, Decidable.not_not, Option.isNone_iff_eq_none, not_true_eq_false, not_false_eq_true] at hb); try (exfalso; omega))) | fail)
  rename_i g11
  rw [show (ndL gb).cells ++ ((ndF 1).cells ++ []) = ndc [ndL gb, ndF 1] from rfl]
  repeat' (first | (refine go1 ?_; intros) | (refine vl_caseG rfl rfl rfl rfl ?_ ?_ <;> (intro hb; (try simp only [decide_eq_true_eq, decide_eq_false_iff_not, Bool.not_eq_true', Bool.not_eq_false', ne_eq, Decidable.not_not, Option.isNone_iff_eq_none, not_true_eq_false, not_false_eq_true] at hb); try (exfalso; omega))) | (refine v_cond rfl ?_ ?_ <;> (intro hb; (try simp only [decide_eq_true_eq, decide_eq_false_iff_not, Bool.not_eq_true', Bool.not_eq_false', ne_eq, Decidable.not_not, Option.isNone_iff_eq_none, not_true_eq_false, not_false_eq_true] at hb); try (exfalso; omega))) | fail)
  refine vl_o rfl (vo_call rfl rfl ?_)
  refine vc_mono (tcheck_vc w0 _ (some ⟨g11, 0, none⟩) 2 [ndL gb, ndF 1] 2 rfl (ndLF_ok gb 1)) ?_
  rintro v L' ⟨rfl, rfl⟩
  rw [if_neg (bad2 gb)]
  repeat' (first | (refine goB ?_; intros) | (refine vl_caseG rfl rfl rfl rfl ?_ ?_ <;> (intro hb; (try simp only [decide_eq_true_eq, decide_eq_false_iff_not, Bool.not_eq_true', Bool.not_eq_false', ne_eq, Decidable.not_not, Option.isNone_iff_eq_none, not_true_eq_false, not_false_eq_true] at hb); try (exfalso; omega))) | (refine v_cond rfl ?_ ?_ <;> (intro hb; (try simp only [decide_eq_true_eq, decide_eq_false_iff_not, Bool.not_eq_true', Bool.not_eq_false', ne_eq, Decidable.not_not, Option.isNone_iff_eq_none, not_true_eq_false, not_false_eq_true] at hb); try (exfalso; omega))) | fail)
  refine vl_o rfl (vo_call rfl rfl ?_)
  refine vc_mono (tat_vc w0 _ a2 c2 es s 2 rfl hes.ok) ?_
  rintro v L' ⟨a6, c6, hs6, u6, rfl, -, rfl⟩
  have e3 : tatE es s 2 = 2 := by
    unfold tatE
    rw [if_pos hes.may, if_neg (fun h => by have := h.hi; omega)]
  rw [e3]
  repeat' (first | (refine goB ?_; intros) | (refine vl_caseG rfl rfl rfl rfl ?_ ?_ <;> (intro hb; (try simp only [decide_eq_true_eq, decide_eq_false_iff_not, Bool.not_eq_true', Bool.not_eq_false', ne_eq, Decidable.not_not, Option.isNone_iff_eq_none, not_true_eq_false, not_false_eq_true] at hb); try (exfalso; omega))) | (refine v_cond rfl ?_ ?_ <;> (intro hb; (try simp only [decide_eq_true_eq, decide_eq_false_iff_not, Bool.not_eq_true', Bool.not_eq_false', ne_eq, Decidable.not_not, Option.isNone_iff_eq_none, not_true_eq_false, not_false_eq_true] at hb); try (exfalso; omega))) | fail)
  refine vl_o rfl (vo_call rfl rfl ?_)
  refine vc_mono (alive6_vc w0 _) ?_
  rintro v L' ⟨rfl, rfl⟩
  repeat' (first | (refine goB ?_; intros) | (refine vl_caseG rfl rfl rfl rfl ?_ ?_ <;> (intro hb; (try simp only [decide_eq_true_eq, decide_eq_false_iff_not, Bool.not_eq_true', Bool.not_eq_false', ne_eq, Decidable.not_not, Option.isNone_iff_eq_none, not_true_eq_false, not_false_eq_true] at hb); try (exfalso; omega))) | (refine v_cond rfl ?_ ?_ <;> (intro hb; (try simp only [decide_eq_true_eq, decide_eq_false_iff_not, Bool.not_eq_true', Bool.not_eq_false', ne_eq, Decidable.not_not, Option.isNone_iff_eq_none, not_true_eq_false, not_false_eq_true] at hb); try (exfalso; omega))) | fail)
  rename_i g12
  rw [show (ndL gb).cells ++ [] = ndc [ndL gb] from rfl]
  repeat' (first | (refine go1 ?_; intros) | (refine vl_caseG rfl rfl rfl rfl ?_ ?_ <;> (intro hb; (try simp only [decide_eq_true_eq, decide_eq_false_iff_not, Bool.not_eq_true', Bool.not_eq_false', ne_eq, Decidable.not_not, Option.isNone_iff_eq_none, not_true_eq_false, not_false_eq_true] at hb); try (exfalso; omega))) | (refine v_cond rfl ?_ ?_ <;> (intro hb; (try simp only [decide_eq_true_eq, decide_eq_false_iff_not, Bool.not_eq_true', Bool.not_eq_false', ne_eq, Decidable.not_not, Option.isNone_iff_eq_none, not_true_eq_false, not_false_eq_true] at hb); try (exfalso; omega))) | fail)
  refine vl_o rfl (vo_call rfl rfl ?_)
  refine vc_mono (tcheck_vc w0 _ (some ⟨g12, 0, none⟩) 1 [ndL gb] 1 rfl (ndL_ok gb)) ?_
  rintro v L' ⟨rfl, rfl⟩
  rw [if_pos (good1 gb)]
  repeat' (first | (refine goB ?_; intros) | (refine vl_caseG rfl rfl rfl rfl ?_ ?_ <;> (intro hb; (try simp only [decide_eq_true_eq, decide_eq_false_iff_not, Bool.not_eq_true', Bool.not_eq_false', ne_eq, Decidable.not_not, Option.isNone_iff_eq_none, not_true_eq_false, not_false_eq_true] at hb); try (exfalso; omega))) | (refine v_cond rfl ?_ ?_ <;> (intro hb; (try simp only [decide_eq_true_eq, decide_eq_false_iff_not, Bool.not_eq_true', Bool.not_eq_false', ne_eq, Decidable.not_not, Option.isNone_iff_eq_none, not_true_eq_false, not_false_eq_true] at hb); try (exfalso; omega))) | fail)
  exact rfl
end Go.Proofs.YtmaimkbppnpbnaaDoor
