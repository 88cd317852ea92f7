/-
  The chapter's examples of proofs.
-/
import Derived.Test.YtmaimkbppnpbnaaDoorTPrD
set_option linter.unusedVariables false
set_option linter.unusedSimpArgs false
namespace Go.Proofs.YtmaimkbppnpbnaaDoor
open Go Go.RowKit
set_option linter.unusedVariables false
set_option linter.unusedSimpArgs false
open Classical

theorem prfQ_fillO {k : Nat} {a o : List UInt8} {gb : Nat} {v : List UInt8} {gs : Nat} {D : List UInt8} (ha : a.length = 32) (ho : o.length = 32) (hv : v.length = 1) : fillS [(0, 32), (32, 1), (33, 32), (65, 1), (66, 1)] (bvs (List.replicate 32 0) ++ (.int .u8 0 :: (bvs (List.replicate 32 0) ++ [.slice none 0 0, .slice none 0 0]))) [(0, bvs a), (1, [.int .u8 k]), (2, bvs o), (3, [.slice (some ⟨gb, 0, none⟩) 1 1]), (4, [.slice (some ⟨gs, 0, none⟩) 1 1])] = (prfQ k a o gb v gs D).cells := by
  simp [fillS, splice, ha, ho, hv, prfQ, Prf.cells, List.drop_append, List.drop_of_length_le, List.take_append]
  repeat rw [List.take_of_length_le (by simp [ha, ho])]
/-- A proof of a key and a kind alone. -/
def prfW (k : Nat) (a : List UInt8) : Prf := ⟨a, k, z32, none, 0, [], none, 0, []⟩
theorem prfW_ok {k : Nat} {a : List UInt8} (hk : k < 256) (ha : a.length = 32) : (prfW k a).ok := ⟨ha, hk, z32_len, fun x hx => absurd hx (by simp [prfW]), by simp [prfW], by simp [prfW]⟩
theorem prfW_fill {a : List UInt8} (ha : a.length = 32) : fillS [(0, 32), (32, 1), (33, 32), (65, 1), (66, 1)] (bvs (List.replicate 32 0) ++ (.int .u8 0 :: (bvs (List.replicate 32 0) ++ [.slice none 0 0, .slice none 0 0]))) [(0, bvs a)] = (prfW 0 a).cells := by
  simp [fillS, splice, ha, prfW, Prf.cells, z32, List.drop_append, List.drop_of_length_le, List.take_append]
theorem prfW_may : (prfW 1 z32).may = false := by
  unfold Prf.may
  simp [Prf.may1, prfW, okVal]
set_option maxRecDepth 100000 in
set_option maxHeartbeats 8000000 in
theorem proofNames_vc (w0 : World) [hK : RdA w0 (some ⟨0, 0, none⟩) (wds K64)] :
    VC Tryd.prog w0 9 [] [] fun v L' => v = .bool true := by
  have k3 := dk_len 3
  have k4 := dk_len 4
  have k200 := dk_len 200
  have k201 := dk_len 201
  refine vc_in rfl rfl ?_
  repeat' (first | (refine goB ?_; intros) | (refine vl_caseG rfl rfl rfl rfl ?_ ?_ <;> (intro hb; (try simp only [decide_eq_true_eq, decide_eq_false_iff_not, Bool.not_eq_true', Bool.not_eq_false', ne_eq, Decidable.not_not, Option.isNone_iff_eq_none, not_true_eq_false, not_false_eq_true] at hb); try (exfalso; omega))) | (refine v_cond rfl ?_ ?_ <;> (intro hb; (try simp only [decide_eq_true_eq, decide_eq_false_iff_not, Bool.not_eq_true', Bool.not_eq_false', ne_eq, Decidable.not_not, Option.isNone_iff_eq_none, not_true_eq_false, not_false_eq_true] at hb); try (exfalso; omega))) | fail)
  refine vl_o rfl (vo_call rfl rfl ?_)
  refine vc_mono (two7_vc w0 _) ?_
  rintro v L' ⟨a, c, ns, s, rfl, hT, rfl⟩
  repeat' (first | (refine goB ?_; intros) | (refine vl_caseG rfl rfl rfl rfl ?_ ?_ <;> (intro hb; (try simp only [decide_eq_true_eq, decide_eq_false_iff_not, Bool.not_eq_true', Bool.not_eq_false', ne_eq, Decidable.not_not, Option.isNone_iff_eq_none, not_true_eq_false, not_false_eq_true] at hb); try (exfalso; omega))) | (refine v_cond rfl ?_ ?_ <;> (intro hb; (try simp only [decide_eq_true_eq, decide_eq_false_iff_not, Bool.not_eq_true', Bool.not_eq_false', ne_eq, Decidable.not_not, Option.isNone_iff_eq_none, not_true_eq_false, not_false_eq_true] at hb); try (exfalso; omega))) | fail)
  refine vl_q rfl rfl rfl rfl (vq_dk (c := 4) rfl) ?_
  repeat' (first | (refine goB ?_; intros) | (refine vl_caseG rfl rfl rfl rfl ?_ ?_ <;> (intro hb; (try simp only [decide_eq_true_eq, decide_eq_false_iff_not, Bool.not_eq_true', Bool.not_eq_false', ne_eq, Decidable.not_not, Option.isNone_iff_eq_none, not_true_eq_false, not_false_eq_true] at hb); try (exfalso; omega))) | (refine v_cond rfl ?_ ?_ <;> (intro hb; (try simp only [decide_eq_true_eq, decide_eq_false_iff_not, Bool.not_eq_true', Bool.not_eq_false', ne_eq, Decidable.not_not, Option.isNone_iff_eq_none, not_true_eq_false, not_false_eq_true] at hb); try (exfalso; omega))) | fail)
  refine vl_o rfl (vo_call rfl rfl ?_)
  refine vc_mono (pmake_vc w0 _ a c ns s (dk 4) rfl hT.ok k4) ?_
  rintro v L' ⟨p, rfl, hp1, hp2, rfl⟩
  rw [hT.mayE]
  rw [hT.prf, g_lo 4 tw_bit4, if_neg (by rw [dk_inj]; decide)] at hp1
  have hpc := Prf.len hp2
  repeat' (first | (refine goB ?_; intros) | (refine vl_caseG rfl rfl rfl rfl ?_ ?_ <;> (intro hb; (try simp only [decide_eq_true_eq, decide_eq_false_iff_not, Bool.not_eq_true', Bool.not_eq_false', ne_eq, Decidable.not_not, Option.isNone_iff_eq_none, not_true_eq_false, not_false_eq_true] at hb); try (exfalso; omega))) | (refine v_cond rfl ?_ ?_ <;> (intro hb; (try simp only [decide_eq_true_eq, decide_eq_false_iff_not, Bool.not_eq_true', Bool.not_eq_false', ne_eq, Decidable.not_not, Option.isNone_iff_eq_none, not_true_eq_false, not_false_eq_true] at hb); try (exfalso; omega))) | fail)
  refine vl_o rfl (vo_call rfl rfl ?_)
  refine vc_mono (two7_vc w0 _) ?_
  rintro v L' ⟨a3, c3, ms, s3, rfl, hU, rfl⟩
  repeat' (first | (refine goB ?_; intros) | (refine vl_caseG rfl rfl rfl rfl ?_ ?_ <;> (intro hb; (try simp only [decide_eq_true_eq, decide_eq_false_iff_not, Bool.not_eq_true', Bool.not_eq_false', ne_eq, Decidable.not_not, Option.isNone_iff_eq_none, not_true_eq_false, not_false_eq_true] at hb); try (exfalso; omega))) | (refine v_cond rfl ?_ ?_ <;> (intro hb; (try simp only [decide_eq_true_eq, decide_eq_false_iff_not, Bool.not_eq_true', Bool.not_eq_false', ne_eq, Decidable.not_not, Option.isNone_iff_eq_none, not_true_eq_false, not_false_eq_true] at hb); try (exfalso; omega))) | fail)
  refine vl_q rfl rfl rfl rfl (vq_dk (c := 201) rfl) ?_
  repeat' (first | (refine goB ?_; intros) | (refine vl_caseG rfl rfl rfl rfl ?_ ?_ <;> (intro hb; (try simp only [decide_eq_true_eq, decide_eq_false_iff_not, Bool.not_eq_true', Bool.not_eq_false', ne_eq, Decidable.not_not, Option.isNone_iff_eq_none, not_true_eq_false, not_false_eq_true] at hb); try (exfalso; omega))) | (refine v_cond rfl ?_ ?_ <;> (intro hb; (try simp only [decide_eq_true_eq, decide_eq_false_iff_not, Bool.not_eq_true', Bool.not_eq_false', ne_eq, Decidable.not_not, Option.isNone_iff_eq_none, not_true_eq_false, not_false_eq_true] at hb); try (exfalso; omega))) | fail)
  refine vl_o rfl (vo_call rfl rfl ?_)
  refine vc_mono (pmake_vc w0 _ a3 c3 ms s3 (dk 201) rfl hU.ok k201) ?_
  rintro v L' ⟨q, rfl, hq1, hq2, rfl⟩
  rw [hU.mayE]
  rw [hU.prf, g_hi 201 tw_bit201, if_neg (by rw [dk_inj]; decide)] at hq1
  have hqc := Prf.len hq2
  repeat' (first | (refine goB ?_; intros) | (refine vl_caseG rfl rfl rfl rfl ?_ ?_ <;> (intro hb; (try simp only [decide_eq_true_eq, decide_eq_false_iff_not, Bool.not_eq_true', Bool.not_eq_false', ne_eq, Decidable.not_not, Option.isNone_iff_eq_none, not_true_eq_false, not_false_eq_true] at hb); try (exfalso; omega))) | (refine v_cond rfl ?_ ?_ <;> (intro hb; (try simp only [decide_eq_true_eq, decide_eq_false_iff_not, Bool.not_eq_true', Bool.not_eq_false', ne_eq, Decidable.not_not, Option.isNone_iff_eq_none, not_true_eq_false, not_false_eq_true] at hb); try (exfalso; omega))) | fail)
  refine vl_q rfl rfl rfl rfl (vq_dk (c := 3) rfl) ?_
  repeat' (first | (refine goB ?_; intros) | (refine vl_caseG rfl rfl rfl rfl ?_ ?_ <;> (intro hb; (try simp only [decide_eq_true_eq, decide_eq_false_iff_not, Bool.not_eq_true', Bool.not_eq_false', ne_eq, Decidable.not_not, Option.isNone_iff_eq_none, not_true_eq_false, not_false_eq_true] at hb); try (exfalso; omega))) | (refine v_cond rfl ?_ ?_ <;> (intro hb; (try simp only [decide_eq_true_eq, decide_eq_false_iff_not, Bool.not_eq_true', Bool.not_eq_false', ne_eq, Decidable.not_not, Option.isNone_iff_eq_none, not_true_eq_false, not_false_eq_true] at hb); try (exfalso; omega))) | fail)
  refine vl_o rfl (vo_call rfl rfl ?_)
  refine vc_mono (pmake_vc (hr := rdC_nil _ _ _) (hv := rdNs_nil _ _) w0 _ none 0 [] 0 (dk 3) rfl nsOk_nil k3) ?_
  rintro v L' ⟨o, rfl, ho1, ho2, rfl⟩
  rw [show mayE [] 0 = 0 by unfold mayE; rw [if_pos tw_may]]
  rw [prfT_pairs (dk 3) tw_may, show forP [] (Int.toNat 0) = [] by rw [show Int.toNat 0 = 0 from rfl, forP], prfG_nil] at ho1
  have hoc := Prf.len ho2
  repeat' (first | (refine goB ?_; intros) | (refine vl_caseG rfl rfl rfl rfl ?_ ?_ <;> (intro hb; (try simp only [decide_eq_true_eq, decide_eq_false_iff_not, Bool.not_eq_true', Bool.not_eq_false', ne_eq, Decidable.not_not, Option.isNone_iff_eq_none, not_true_eq_false, not_false_eq_true] at hb); try (exfalso; omega))) | (refine v_cond rfl ?_ ?_ <;> (intro hb; (try simp only [decide_eq_true_eq, decide_eq_false_iff_not, Bool.not_eq_true', Bool.not_eq_false', ne_eq, Decidable.not_not, Option.isNone_iff_eq_none, not_true_eq_false, not_false_eq_true] at hb); try (exfalso; omega))) | fail)
  refine vl_o rfl (vo_call rfl rfl ?_)
  refine vc_mono (told_vc w0 _ p hp2) ?_
  rintro v L' ⟨a5, c5, rfl, rfl⟩
  repeat' (first | (refine goB ?_; intros) | (refine vl_caseG rfl rfl rfl rfl ?_ ?_ <;> (intro hb; (try simp only [decide_eq_true_eq, decide_eq_false_iff_not, Bool.not_eq_true', Bool.not_eq_false', ne_eq, Decidable.not_not, Option.isNone_iff_eq_none, not_true_eq_false, not_false_eq_true] at hb); try (exfalso; omega))) | (refine v_cond rfl ?_ ?_ <;> (intro hb; (try simp only [decide_eq_true_eq, decide_eq_false_iff_not, Bool.not_eq_true', Bool.not_eq_false', ne_eq, Decidable.not_not, Option.isNone_iff_eq_none, not_true_eq_false, not_false_eq_true] at hb); try (exfalso; omega))) | fail)
  refine vl_o rfl (vo_call rfl rfl ?_)
  refine vc_mono (told_vc w0 _ o ho2) ?_
  rintro v L' ⟨a6, c6, rfl, rfl⟩
  have hpk : p.kind = 2 := congrArg Prf.kind hp1
  have hok : o.kind = 0 := congrArg Prf.kind ho1
  have hpT : p.isT = false := by unfold Prf.isT; rw [hpk]; simp
  have hoT : o.isT = false := by unfold Prf.isT; rw [hok]; simp
  rw [hpT, hoT]
  repeat' (first | (refine goB ?_; intros) | (refine vl_caseG rfl rfl rfl rfl ?_ ?_ <;> (intro hb; (try simp only [decide_eq_true_eq, decide_eq_false_iff_not, Bool.not_eq_true', Bool.not_eq_false', ne_eq, Decidable.not_not, Option.isNone_iff_eq_none, not_true_eq_false, not_false_eq_true] at hb); try (exfalso; omega))) | (refine v_cond rfl ?_ ?_ <;> (intro hb; (try simp only [decide_eq_true_eq, decide_eq_false_iff_not, Bool.not_eq_true', Bool.not_eq_false', ne_eq, Decidable.not_not, Option.isNone_iff_eq_none, not_true_eq_false, not_false_eq_true] at hb); try (exfalso; omega))) | fail)
  rename_i g1 g3 g5
  obtain ⟨D, hD⟩ : ∃ D, D = leaf1 (dk 200) [98] := ⟨_, rfl⟩
  have lD := leaf1_len (dk 200) [98]
  rw [← hD] at lD hp1
  obtain ⟨E, hE⟩ : ∃ E, E = leaf1 (dk 3) [97] := ⟨_, rfl⟩
  have lE := leaf1_len (dk 3) [97]
  rw [← hE] at lE hq1
  refine v_cut Unit [0, 1, 2, 3, 4, 5, 6, 8, 10] rfl (fun _ => [(11, .bool true)]) (fun _ => [blk g5 75 o.cells, ownB o.va o.vc o.vl, ownDg o.pa o.pc o.pl, blk g3 75 q.cells, ownB q.va q.vc q.vl, ownDg q.pa q.pc q.pl, blk g1 75 p.cells, ownB p.va p.vc p.vl, ownDg p.pa p.pc p.pl]) ?_ ?_
  · refine v_id ?_
    refine v_draw0 [] (by kernel_rfl) ?_
    refine va_takeA 0 rfl rfl rfl rfl ?_
    refine va_take 1 rfl rfl rfl rfl (by kernel_rfl) (fun _ _ _ _ h => h) (SE.ent (by repeat' (first | exact SE.refl _ | refine SE.cons _ ?_ | refine SE.trans (se_drop _ _) ?_)) _) (vq_dk (c := 4) rfl) ?_
    refine va_take 2 rfl rfl rfl rfl (by kernel_rfl) (fun _ _ _ _ h => h) (SE.ent (by repeat' (first | exact SE.refl _ | refine SE.cons _ ?_ | refine SE.trans (se_drop _ _) ?_)) _) (vq_dk (c := 3) rfl) ?_
    refine va_two 3 5 (by kernel_rfl) rfl rfl rfl rfl ?_ ?_
    · (first | (refine vo_box rfl rfl rfl ?_; intro _) | (refine vo_alloc rfl ?_; intro _) | (refine vo_isStore ?_; first | (refine vo_isPt0 rfl ?_; refine vo_stWA rfl rfl ?_) | (refine vo_isPt rfl ?_; refine vo_stBA rfl rfl ?_) | (refine vo_stO rfl rfl (by rfl) (by first | rfl | assumption) (by first | assumption | (simp; done) | (simp; omega) | omega) rfl ?_; skip)) | (refine vo_isCall ?_; first | (refine vo_isApp ?_; first | (refine vo_append0A rfl rfl rfl ?_; intro _ _ _ _) | (refine vo_appendA rfl rfl rfl ?_; intro _ _ _ _)) | (refine vo_isCopy ?_; refine vo_copyB rfl rfl rfl (by assumption) (by assumption) (by assumption) (by assumption) ?_) | refine vo_yield rfl rfl rfl rfl rfl ?_ | refine vo_callV rfl rfl rfl (vc_in rfl rfl ?_)) | refine vo_convRow rfl rfl ?_ | (refine vo_isBs ?_; refine vo_buildSlice rfl rfl rfl (by decide) (by repeat' (first | exact trivial | rfl | assumption | refine ⟨?_, ?_⟩ | (simp; done) | (simp; omega))) (by decide) rfl ?_; intro _) | (refine vo_buildSlice0 rfl ?_; intro _) | fail)
      rename_i gb
      refine ⟨.inr (sei _ _ _), ?_⟩
      refine va_two 4 5 (by kernel_rfl) rfl rfl rfl rfl ?_ ?_
      · refine vo_convRow rfl rfl ?_
        refine ⟨.inr (sei _ _ _), ?_⟩
        refine va_one 5 (by kernel_rfl) rfl rfl ?_
        first | refine vo_call rfl rfl ?_ | refine vo_callV rfl rfl rfl ?_
        refine vc_mono (side7_vc w0 _ 200 [98] rfl (by decide)) ?_
        rintro v' L' ⟨gs, rfl, rfl⟩
        rw [← hD]
        refine ⟨.inr (sei _ _ _), ?_⟩
        have q2 : (prfQ 2 (dk 4) (dk 3) gb [97] gs D).ok := prfQ_ok (by decide) k4 k3 (by simp) lD
        have lQ := Prf.len q2
        refine va_take 6 rfl rfl rfl rfl (by kernel_rfl) (fun _ _ _ _ h => h) (SE.ent (by repeat' (first | exact SE.refl _ | refine SE.cons _ ?_ | refine SE.trans (se_drop _ _) ?_)) _) (vq_buildP (cs := (prfQ 2 (dk 4) (dk 3) gb [97] gs D).cells) rfl (by simp [okS, Value.cells, k4, k3]) (prfQ_fillO k4 k3 rfl)) ?_
        refine va_one 7 (by kernel_rfl) rfl rfl ?_
        first | refine vo_call rfl rfl ?_ | refine vo_callV rfl rfl rfl ?_
        haveI r1 : ∀ M, RdC w0 (rd (some ⟨gb, 0, none⟩) [.int .u8 97] :: M) (prfQ 2 (dk 4) (dk 3) gb [97] gs D).va (bvs (prfQ 2 (dk 4) (dk 3) gb [97] gs D).vl) := fun M => (inferInstance : RdC w0 (rd (some ⟨gb, 0, none⟩) [.int .u8 97] :: M) (some ⟨gb, 0, none⟩) [.int .u8 97])
        haveI r2 : ∀ M, RdC w0 (own 26 32 (some ⟨gs, 0, none⟩) 1 1 (bvs D) :: M) (prfQ 2 (dk 4) (dk 3) gb [97] gs D).pa (bvs (prfQ 2 (dk 4) (dk 3) gb [97] gs D).pl.flatten) := fun M => by
          rw [show (prfQ 2 (dk 4) (dk 3) gb [97] gs D).pl.flatten = D from List.append_nil D]
          exact (inferInstance : RdC w0 (own 26 32 (some ⟨gs, 0, none⟩) 1 1 (bvs D) :: M) (some ⟨gs, 0, none⟩) (bvs D))
        refine vc_mono (same7_vc w0 _ p (prfQ 2 (dk 4) (dk 3) gb [97] gs D) hp2 q2) ?_
        rintro v' L' ⟨rfl, rfl⟩
        rw [decide_eq_true (ct_eq (q := (prfQ 2 (dk 4) (dk 3) gb [97] gs D)) hp1)]
        refine ⟨.inr (sei _ _ _), ?_⟩
        refine va_takeA 8 rfl rfl rfl rfl ?_
        refine va_done (by kernel_rfl) ?_
        exact ⟨rfl, (), by (repeat' (first | exact Sub.nil _ | refine Sub.cons rfl rfl ?_ | refine Sub.cons rfl ?_ ?_)), sei _ _ _⟩
      · first | refine vo_call rfl rfl ?_ | refine vo_callV rfl rfl rfl ?_
        refine vc_mono (side7_vc w0 _ 200 [98] rfl (by decide)) ?_
        rintro v' L' ⟨gs, rfl, rfl⟩
        rw [← hD]
        refine ⟨.inr (sei _ _ _), ?_⟩
        refine va_one 4 (by kernel_rfl) rfl rfl ?_
        refine vo_convRow rfl rfl ?_
        refine ⟨.inr (sei _ _ _), ?_⟩
        have q2 : (prfQ 2 (dk 4) (dk 3) gb [97] gs D).ok := prfQ_ok (by decide) k4 k3 (by simp) lD
        have lQ := Prf.len q2
        refine va_take 6 rfl rfl rfl rfl (by kernel_rfl) (fun _ _ _ _ h => h) (SE.ent (by repeat' (first | exact SE.refl _ | refine SE.cons _ ?_ | refine SE.trans (se_drop _ _) ?_)) _) (vq_buildP (cs := (prfQ 2 (dk 4) (dk 3) gb [97] gs D).cells) rfl (by simp [okS, Value.cells, k4, k3]) (prfQ_fillO k4 k3 rfl)) ?_
        refine va_one 7 (by kernel_rfl) rfl rfl ?_
        first | refine vo_call rfl rfl ?_ | refine vo_callV rfl rfl rfl ?_
        haveI r1 : ∀ M, RdC w0 (rd (some ⟨gb, 0, none⟩) [.int .u8 97] :: M) (prfQ 2 (dk 4) (dk 3) gb [97] gs D).va (bvs (prfQ 2 (dk 4) (dk 3) gb [97] gs D).vl) := fun M => (inferInstance : RdC w0 (rd (some ⟨gb, 0, none⟩) [.int .u8 97] :: M) (some ⟨gb, 0, none⟩) [.int .u8 97])
        haveI r2 : ∀ M, RdC w0 (own 26 32 (some ⟨gs, 0, none⟩) 1 1 (bvs D) :: M) (prfQ 2 (dk 4) (dk 3) gb [97] gs D).pa (bvs (prfQ 2 (dk 4) (dk 3) gb [97] gs D).pl.flatten) := fun M => by
          rw [show (prfQ 2 (dk 4) (dk 3) gb [97] gs D).pl.flatten = D from List.append_nil D]
          exact (inferInstance : RdC w0 (own 26 32 (some ⟨gs, 0, none⟩) 1 1 (bvs D) :: M) (some ⟨gs, 0, none⟩) (bvs D))
        refine vc_mono (same7_vc w0 _ p (prfQ 2 (dk 4) (dk 3) gb [97] gs D) hp2 q2) ?_
        rintro v' L' ⟨rfl, rfl⟩
        rw [decide_eq_true (ct_eq (q := (prfQ 2 (dk 4) (dk 3) gb [97] gs D)) hp1)]
        refine ⟨.inr (sei _ _ _), ?_⟩
        refine va_takeA 8 rfl rfl rfl rfl ?_
        refine va_done (by kernel_rfl) ?_
        exact ⟨rfl, (), by (repeat' (first | exact Sub.nil _ | refine Sub.cons rfl rfl ?_ | refine Sub.cons rfl ?_ ?_)), sei _ _ _⟩
    · first | refine vo_call rfl rfl ?_ | refine vo_callV rfl rfl rfl ?_
      refine vc_mono (side7_vc w0 _ 200 [98] rfl (by decide)) ?_
      rintro v' L' ⟨gs, rfl, rfl⟩
      rw [← hD]
      refine ⟨.inr (sei _ _ _), ?_⟩
      refine va_one 3 (by kernel_rfl) rfl rfl ?_
      (first | (refine vo_box rfl rfl rfl ?_; intro _) | (refine vo_alloc rfl ?_; intro _) | (refine vo_isStore ?_; first | (refine vo_isPt0 rfl ?_; refine vo_stWA rfl rfl ?_) | (refine vo_isPt rfl ?_; refine vo_stBA rfl rfl ?_) | (refine vo_stO rfl rfl (by rfl) (by first | rfl | assumption) (by first | assumption | (simp; done) | (simp; omega) | omega) rfl ?_; skip)) | (refine vo_isCall ?_; first | (refine vo_isApp ?_; first | (refine vo_append0A rfl rfl rfl ?_; intro _ _ _ _) | (refine vo_appendA rfl rfl rfl ?_; intro _ _ _ _)) | (refine vo_isCopy ?_; refine vo_copyB rfl rfl rfl (by assumption) (by assumption) (by assumption) (by assumption) ?_) | refine vo_yield rfl rfl rfl rfl rfl ?_ | refine vo_callV rfl rfl rfl (vc_in rfl rfl ?_)) | refine vo_convRow rfl rfl ?_ | (refine vo_isBs ?_; refine vo_buildSlice rfl rfl rfl (by decide) (by repeat' (first | exact trivial | rfl | assumption | refine ⟨?_, ?_⟩ | (simp; done) | (simp; omega))) (by decide) rfl ?_; intro _) | (refine vo_buildSlice0 rfl ?_; intro _) | fail)
      rename_i gb
      refine ⟨.inr (sei _ _ _), ?_⟩
      refine va_one 4 (by kernel_rfl) rfl rfl ?_
      refine vo_convRow rfl rfl ?_
      refine ⟨.inr (sei _ _ _), ?_⟩
      have q2 : (prfQ 2 (dk 4) (dk 3) gb [97] gs D).ok := prfQ_ok (by decide) k4 k3 (by simp) lD
      have lQ := Prf.len q2
      refine va_take 6 rfl rfl rfl rfl (by kernel_rfl) (fun _ _ _ _ h => h) (SE.ent (by repeat' (first | exact SE.refl _ | refine SE.cons _ ?_ | refine SE.trans (se_drop _ _) ?_)) _) (vq_buildP (cs := (prfQ 2 (dk 4) (dk 3) gb [97] gs D).cells) rfl (by simp [okS, Value.cells, k4, k3]) (prfQ_fillO k4 k3 rfl)) ?_
      refine va_one 7 (by kernel_rfl) rfl rfl ?_
      first | refine vo_call rfl rfl ?_ | refine vo_callV rfl rfl rfl ?_
      haveI r1 : ∀ M, RdC w0 (rd (some ⟨gb, 0, none⟩) [.int .u8 97] :: M) (prfQ 2 (dk 4) (dk 3) gb [97] gs D).va (bvs (prfQ 2 (dk 4) (dk 3) gb [97] gs D).vl) := fun M => (inferInstance : RdC w0 (rd (some ⟨gb, 0, none⟩) [.int .u8 97] :: M) (some ⟨gb, 0, none⟩) [.int .u8 97])
      haveI r2 : ∀ M, RdC w0 (own 26 32 (some ⟨gs, 0, none⟩) 1 1 (bvs D) :: M) (prfQ 2 (dk 4) (dk 3) gb [97] gs D).pa (bvs (prfQ 2 (dk 4) (dk 3) gb [97] gs D).pl.flatten) := fun M => by
        rw [show (prfQ 2 (dk 4) (dk 3) gb [97] gs D).pl.flatten = D from List.append_nil D]
        exact (inferInstance : RdC w0 (own 26 32 (some ⟨gs, 0, none⟩) 1 1 (bvs D) :: M) (some ⟨gs, 0, none⟩) (bvs D))
      refine vc_mono (same7_vc w0 _ p (prfQ 2 (dk 4) (dk 3) gb [97] gs D) hp2 q2) ?_
      rintro v' L' ⟨rfl, rfl⟩
      rw [decide_eq_true (ct_eq (q := (prfQ 2 (dk 4) (dk 3) gb [97] gs D)) hp1)]
      refine ⟨.inr (sei _ _ _), ?_⟩
      refine va_takeA 8 rfl rfl rfl rfl ?_
      refine va_done (by kernel_rfl) ?_
      exact ⟨rfl, (), by (repeat' (first | exact Sub.nil _ | refine Sub.cons rfl rfl ?_ | refine Sub.cons rfl ?_ ?_)), sei _ _ _⟩
  rintro ⟨⟩
  repeat' (first | (refine goB ?_; intros) | (refine vl_caseG rfl rfl rfl rfl ?_ ?_ <;> (intro hb; (try simp only [decide_eq_true_eq, decide_eq_false_iff_not, Bool.not_eq_true', Bool.not_eq_false', ne_eq, Decidable.not_not, Option.isNone_iff_eq_none, not_true_eq_false, not_false_eq_true] at hb); try (exfalso; omega))) | (refine v_cond rfl ?_ ?_ <;> (intro hb; (try simp only [decide_eq_true_eq, decide_eq_false_iff_not, Bool.not_eq_true', Bool.not_eq_false', ne_eq, Decidable.not_not, Option.isNone_iff_eq_none, not_true_eq_false, not_false_eq_true] at hb); try (exfalso; omega))) | fail)
  refine v_cut Unit [0, 1, 2, 3, 4, 5, 6, 8, 10, 11] rfl (fun _ => [(12, .bool true)]) (fun _ => [blk g5 75 o.cells, ownB o.va o.vc o.vl, ownDg o.pa o.pc o.pl, blk g3 75 q.cells, ownB q.va q.vc q.vl, ownDg q.pa q.pc q.pl, blk g1 75 p.cells, ownB p.va p.vc p.vl, ownDg p.pa p.pc p.pl]) ?_ ?_
  · refine v_id ?_
    refine v_draw0 [] (by kernel_rfl) ?_
    refine va_takeA 0 rfl rfl rfl rfl ?_
    refine va_take 1 rfl rfl rfl rfl (by kernel_rfl) (fun _ _ _ _ h => h) (SE.ent (by repeat' (first | exact SE.refl _ | refine SE.cons _ ?_ | refine SE.trans (se_drop _ _) ?_)) _) (vq_dk (c := 201) rfl) ?_
    refine va_take 2 rfl rfl rfl rfl (by kernel_rfl) (fun _ _ _ _ h => h) (SE.ent (by repeat' (first | exact SE.refl _ | refine SE.cons _ ?_ | refine SE.trans (se_drop _ _) ?_)) _) (vq_dk (c := 200) rfl) ?_
    refine va_two 3 5 (by kernel_rfl) rfl rfl rfl rfl ?_ ?_
    · (first | (refine vo_box rfl rfl rfl ?_; intro _) | (refine vo_alloc rfl ?_; intro _) | (refine vo_isStore ?_; first | (refine vo_isPt0 rfl ?_; refine vo_stWA rfl rfl ?_) | (refine vo_isPt rfl ?_; refine vo_stBA rfl rfl ?_) | (refine vo_stO rfl rfl (by rfl) (by first | rfl | assumption) (by first | assumption | (simp; done) | (simp; omega) | omega) rfl ?_; skip)) | (refine vo_isCall ?_; first | (refine vo_isApp ?_; first | (refine vo_append0A rfl rfl rfl ?_; intro _ _ _ _) | (refine vo_appendA rfl rfl rfl ?_; intro _ _ _ _)) | (refine vo_isCopy ?_; refine vo_copyB rfl rfl rfl (by assumption) (by assumption) (by assumption) (by assumption) ?_) | refine vo_yield rfl rfl rfl rfl rfl ?_ | refine vo_callV rfl rfl rfl (vc_in rfl rfl ?_)) | refine vo_convRow rfl rfl ?_ | (refine vo_isBs ?_; refine vo_buildSlice rfl rfl rfl (by decide) (by repeat' (first | exact trivial | rfl | assumption | refine ⟨?_, ?_⟩ | (simp; done) | (simp; omega))) (by decide) rfl ?_; intro _) | (refine vo_buildSlice0 rfl ?_; intro _) | fail)
      rename_i gb
      refine ⟨.inr (sei _ _ _), ?_⟩
      refine va_two 4 5 (by kernel_rfl) rfl rfl rfl rfl ?_ ?_
      · refine vo_convRow rfl rfl ?_
        refine ⟨.inr (sei _ _ _), ?_⟩
        refine va_one 5 (by kernel_rfl) rfl rfl ?_
        first | refine vo_call rfl rfl ?_ | refine vo_callV rfl rfl rfl ?_
        refine vc_mono (side7_vc w0 _ 3 [97] rfl (by decide)) ?_
        rintro v' L' ⟨gs, rfl, rfl⟩
        rw [← hE]
        refine ⟨.inr (sei _ _ _), ?_⟩
        have q2 : (prfQ 2 (dk 201) (dk 200) gb [98] gs E).ok := prfQ_ok (by decide) k201 k200 (by simp) lE
        have lQ := Prf.len q2
        refine va_take 6 rfl rfl rfl rfl (by kernel_rfl) (fun _ _ _ _ h => h) (SE.ent (by repeat' (first | exact SE.refl _ | refine SE.cons _ ?_ | refine SE.trans (se_drop _ _) ?_)) _) (vq_buildP (cs := (prfQ 2 (dk 201) (dk 200) gb [98] gs E).cells) rfl (by simp [okS, Value.cells, k201, k200]) (prfQ_fillO k201 k200 rfl)) ?_
        refine va_one 7 (by kernel_rfl) rfl rfl ?_
        first | refine vo_call rfl rfl ?_ | refine vo_callV rfl rfl rfl ?_
        haveI r1 : ∀ M, RdC w0 (rd (some ⟨gb, 0, none⟩) [.int .u8 98] :: M) (prfQ 2 (dk 201) (dk 200) gb [98] gs E).va (bvs (prfQ 2 (dk 201) (dk 200) gb [98] gs E).vl) := fun M => (inferInstance : RdC w0 (rd (some ⟨gb, 0, none⟩) [.int .u8 98] :: M) (some ⟨gb, 0, none⟩) [.int .u8 98])
        haveI r2 : ∀ M, RdC w0 (own 26 32 (some ⟨gs, 0, none⟩) 1 1 (bvs E) :: M) (prfQ 2 (dk 201) (dk 200) gb [98] gs E).pa (bvs (prfQ 2 (dk 201) (dk 200) gb [98] gs E).pl.flatten) := fun M => by
          rw [show (prfQ 2 (dk 201) (dk 200) gb [98] gs E).pl.flatten = E from List.append_nil E]
          exact (inferInstance : RdC w0 (own 26 32 (some ⟨gs, 0, none⟩) 1 1 (bvs E) :: M) (some ⟨gs, 0, none⟩) (bvs E))
        refine vc_mono (same7_vc w0 _ q (prfQ 2 (dk 201) (dk 200) gb [98] gs E) hq2 q2) ?_
        rintro v' L' ⟨rfl, rfl⟩
        rw [decide_eq_true (ct_eq (q := (prfQ 2 (dk 201) (dk 200) gb [98] gs E)) hq1)]
        refine ⟨.inr (sei _ _ _), ?_⟩
        refine va_takeA 8 rfl rfl rfl rfl ?_
        refine va_done (by kernel_rfl) ?_
        exact ⟨rfl, (), by (repeat' (first | exact Sub.nil _ | refine Sub.cons rfl rfl ?_ | refine Sub.cons rfl ?_ ?_)), sei _ _ _⟩
      · first | refine vo_call rfl rfl ?_ | refine vo_callV rfl rfl rfl ?_
        refine vc_mono (side7_vc w0 _ 3 [97] rfl (by decide)) ?_
        rintro v' L' ⟨gs, rfl, rfl⟩
        rw [← hE]
        refine ⟨.inr (sei _ _ _), ?_⟩
        refine va_one 4 (by kernel_rfl) rfl rfl ?_
        refine vo_convRow rfl rfl ?_
        refine ⟨.inr (sei _ _ _), ?_⟩
        have q2 : (prfQ 2 (dk 201) (dk 200) gb [98] gs E).ok := prfQ_ok (by decide) k201 k200 (by simp) lE
        have lQ := Prf.len q2
        refine va_take 6 rfl rfl rfl rfl (by kernel_rfl) (fun _ _ _ _ h => h) (SE.ent (by repeat' (first | exact SE.refl _ | refine SE.cons _ ?_ | refine SE.trans (se_drop _ _) ?_)) _) (vq_buildP (cs := (prfQ 2 (dk 201) (dk 200) gb [98] gs E).cells) rfl (by simp [okS, Value.cells, k201, k200]) (prfQ_fillO k201 k200 rfl)) ?_
        refine va_one 7 (by kernel_rfl) rfl rfl ?_
        first | refine vo_call rfl rfl ?_ | refine vo_callV rfl rfl rfl ?_
        haveI r1 : ∀ M, RdC w0 (rd (some ⟨gb, 0, none⟩) [.int .u8 98] :: M) (prfQ 2 (dk 201) (dk 200) gb [98] gs E).va (bvs (prfQ 2 (dk 201) (dk 200) gb [98] gs E).vl) := fun M => (inferInstance : RdC w0 (rd (some ⟨gb, 0, none⟩) [.int .u8 98] :: M) (some ⟨gb, 0, none⟩) [.int .u8 98])
        haveI r2 : ∀ M, RdC w0 (own 26 32 (some ⟨gs, 0, none⟩) 1 1 (bvs E) :: M) (prfQ 2 (dk 201) (dk 200) gb [98] gs E).pa (bvs (prfQ 2 (dk 201) (dk 200) gb [98] gs E).pl.flatten) := fun M => by
          rw [show (prfQ 2 (dk 201) (dk 200) gb [98] gs E).pl.flatten = E from List.append_nil E]
          exact (inferInstance : RdC w0 (own 26 32 (some ⟨gs, 0, none⟩) 1 1 (bvs E) :: M) (some ⟨gs, 0, none⟩) (bvs E))
        refine vc_mono (same7_vc w0 _ q (prfQ 2 (dk 201) (dk 200) gb [98] gs E) hq2 q2) ?_
        rintro v' L' ⟨rfl, rfl⟩
        rw [decide_eq_true (ct_eq (q := (prfQ 2 (dk 201) (dk 200) gb [98] gs E)) hq1)]
        refine ⟨.inr (sei _ _ _), ?_⟩
        refine va_takeA 8 rfl rfl rfl rfl ?_
        refine va_done (by kernel_rfl) ?_
        exact ⟨rfl, (), by (repeat' (first | exact Sub.nil _ | refine Sub.cons rfl rfl ?_ | refine Sub.cons rfl ?_ ?_)), sei _ _ _⟩
    · first | refine vo_call rfl rfl ?_ | refine vo_callV rfl rfl rfl ?_
      refine vc_mono (side7_vc w0 _ 3 [97] rfl (by decide)) ?_
      rintro v' L' ⟨gs, rfl, rfl⟩
      rw [← hE]
      refine ⟨.inr (sei _ _ _), ?_⟩
      refine va_one 3 (by kernel_rfl) rfl rfl ?_
      (first | (refine vo_box rfl rfl rfl ?_; intro _) | (refine vo_alloc rfl ?_; intro _) | (refine vo_isStore ?_; first | (refine vo_isPt0 rfl ?_; refine vo_stWA rfl rfl ?_) | (refine vo_isPt rfl ?_; refine vo_stBA rfl rfl ?_) | (refine vo_stO rfl rfl (by rfl) (by first | rfl | assumption) (by first | assumption | (simp; done) | (simp; omega) | omega) rfl ?_; skip)) | (refine vo_isCall ?_; first | (refine vo_isApp ?_; first | (refine vo_append0A rfl rfl rfl ?_; intro _ _ _ _) | (refine vo_appendA rfl rfl rfl ?_; intro _ _ _ _)) | (refine vo_isCopy ?_; refine vo_copyB rfl rfl rfl (by assumption) (by assumption) (by assumption) (by assumption) ?_) | refine vo_yield rfl rfl rfl rfl rfl ?_ | refine vo_callV rfl rfl rfl (vc_in rfl rfl ?_)) | refine vo_convRow rfl rfl ?_ | (refine vo_isBs ?_; refine vo_buildSlice rfl rfl rfl (by decide) (by repeat' (first | exact trivial | rfl | assumption | refine ⟨?_, ?_⟩ | (simp; done) | (simp; omega))) (by decide) rfl ?_; intro _) | (refine vo_buildSlice0 rfl ?_; intro _) | fail)
      rename_i gb
      refine ⟨.inr (sei _ _ _), ?_⟩
      refine va_one 4 (by kernel_rfl) rfl rfl ?_
      refine vo_convRow rfl rfl ?_
      refine ⟨.inr (sei _ _ _), ?_⟩
      have q2 : (prfQ 2 (dk 201) (dk 200) gb [98] gs E).ok := prfQ_ok (by decide) k201 k200 (by simp) lE
      have lQ := Prf.len q2
      refine va_take 6 rfl rfl rfl rfl (by kernel_rfl) (fun _ _ _ _ h => h) (SE.ent (by repeat' (first | exact SE.refl _ | refine SE.cons _ ?_ | refine SE.trans (se_drop _ _) ?_)) _) (vq_buildP (cs := (prfQ 2 (dk 201) (dk 200) gb [98] gs E).cells) rfl (by simp [okS, Value.cells, k201, k200]) (prfQ_fillO k201 k200 rfl)) ?_
      refine va_one 7 (by kernel_rfl) rfl rfl ?_
      first | refine vo_call rfl rfl ?_ | refine vo_callV rfl rfl rfl ?_
      haveI r1 : ∀ M, RdC w0 (rd (some ⟨gb, 0, none⟩) [.int .u8 98] :: M) (prfQ 2 (dk 201) (dk 200) gb [98] gs E).va (bvs (prfQ 2 (dk 201) (dk 200) gb [98] gs E).vl) := fun M => (inferInstance : RdC w0 (rd (some ⟨gb, 0, none⟩) [.int .u8 98] :: M) (some ⟨gb, 0, none⟩) [.int .u8 98])
      haveI r2 : ∀ M, RdC w0 (own 26 32 (some ⟨gs, 0, none⟩) 1 1 (bvs E) :: M) (prfQ 2 (dk 201) (dk 200) gb [98] gs E).pa (bvs (prfQ 2 (dk 201) (dk 200) gb [98] gs E).pl.flatten) := fun M => by
        rw [show (prfQ 2 (dk 201) (dk 200) gb [98] gs E).pl.flatten = E from List.append_nil E]
        exact (inferInstance : RdC w0 (own 26 32 (some ⟨gs, 0, none⟩) 1 1 (bvs E) :: M) (some ⟨gs, 0, none⟩) (bvs E))
      refine vc_mono (same7_vc w0 _ q (prfQ 2 (dk 201) (dk 200) gb [98] gs E) hq2 q2) ?_
      rintro v' L' ⟨rfl, rfl⟩
      rw [decide_eq_true (ct_eq (q := (prfQ 2 (dk 201) (dk 200) gb [98] gs E)) hq1)]
      refine ⟨.inr (sei _ _ _), ?_⟩
      refine va_takeA 8 rfl rfl rfl rfl ?_
      refine va_done (by kernel_rfl) ?_
      exact ⟨rfl, (), by (repeat' (first | exact Sub.nil _ | refine Sub.cons rfl rfl ?_ | refine Sub.cons rfl ?_ ?_)), sei _ _ _⟩
  rintro ⟨⟩
  repeat' (first | (refine goB ?_; intros) | (refine vl_caseG rfl rfl rfl rfl ?_ ?_ <;> (intro hb; (try simp only [decide_eq_true_eq, decide_eq_false_iff_not, Bool.not_eq_true', Bool.not_eq_false', ne_eq, Decidable.not_not, Option.isNone_iff_eq_none, not_true_eq_false, not_false_eq_true] at hb); try (exfalso; omega))) | (refine v_cond rfl ?_ ?_ <;> (intro hb; (try simp only [decide_eq_true_eq, decide_eq_false_iff_not, Bool.not_eq_true', Bool.not_eq_false', ne_eq, Decidable.not_not, Option.isNone_iff_eq_none, not_true_eq_false, not_false_eq_true] at hb); try (exfalso; omega))) | fail)
  refine vl_o rfl (vo_call rfl rfl ?_)
  refine vc_mono (alive7_vc w0 _) ?_
  rintro v L' ⟨rfl, rfl⟩
  repeat' (first | (refine goB ?_; intros) | (refine vl_caseG rfl rfl rfl rfl ?_ ?_ <;> (intro hb; (try simp only [decide_eq_true_eq, decide_eq_false_iff_not, Bool.not_eq_true', Bool.not_eq_false', ne_eq, Decidable.not_not, Option.isNone_iff_eq_none, not_true_eq_false, not_false_eq_true] at hb); try (exfalso; omega))) | (refine v_cond rfl ?_ ?_ <;> (intro hb; (try simp only [decide_eq_true_eq, decide_eq_false_iff_not, Bool.not_eq_true', Bool.not_eq_false', ne_eq, Decidable.not_not, Option.isNone_iff_eq_none, not_true_eq_false, not_false_eq_true] at hb); try (exfalso; omega))) | fail)
  refine vl_q rfl rfl rfl rfl (vq_dk (c := 3) rfl) ?_
  repeat' (first | (refine goB ?_; intros) | (refine vl_caseG rfl rfl rfl rfl ?_ ?_ <;> (intro hb; (try simp only [decide_eq_true_eq, decide_eq_false_iff_not, Bool.not_eq_true', Bool.not_eq_false', ne_eq, Decidable.not_not, Option.isNone_iff_eq_none, not_true_eq_false, not_false_eq_true] at hb); try (exfalso; omega))) | (refine v_cond rfl ?_ ?_ <;> (intro hb; (try simp only [decide_eq_true_eq, decide_eq_false_iff_not, Bool.not_eq_true', Bool.not_eq_false', ne_eq, Decidable.not_not, Option.isNone_iff_eq_none, not_true_eq_false, not_false_eq_true] at hb); try (exfalso; omega))) | fail)
  refine vl_q rfl rfl rfl rfl (vq_buildP (cs := (prfW 0 (dk 3)).cells) rfl (by simp [okS, Value.cells, k3]) (prfW_fill k3)) ?_
  have z2 : (prfW 0 (dk 3)).ok := prfW_ok (by decide) k3
  have lz := Prf.len z2
  repeat' (first | (refine goB ?_; intros) | (refine vl_caseG rfl rfl rfl rfl ?_ ?_ <;> (intro hb; (try simp only [decide_eq_true_eq, decide_eq_false_iff_not, Bool.not_eq_true', Bool.not_eq_false', ne_eq, Decidable.not_not, Option.isNone_iff_eq_none, not_true_eq_false, not_false_eq_true] at hb); try (exfalso; omega))) | (refine v_cond rfl ?_ ?_ <;> (intro hb; (try simp only [decide_eq_true_eq, decide_eq_false_iff_not, Bool.not_eq_true', Bool.not_eq_false', ne_eq, Decidable.not_not, Option.isNone_iff_eq_none, not_true_eq_false, not_false_eq_true] at hb); try (exfalso; omega))) | fail)
  refine vl_o rfl (vo_call rfl rfl ?_)
  refine vc_mono (same7_vc (hq := rdC_nil _ _ _) (hq2 := rdC_nil _ _ _) w0 _ o (prfW 0 (dk 3)) ho2 z2) ?_
  rintro v' L' ⟨rfl, rfl⟩
  rw [decide_eq_true (ct_eq (q := prfW 0 (dk 3)) ho1)]
  repeat' (first | (refine goB ?_; intros) | (refine vl_caseG rfl rfl rfl rfl ?_ ?_ <;> (intro hb; (try simp only [decide_eq_true_eq, decide_eq_false_iff_not, Bool.not_eq_true', Bool.not_eq_false', ne_eq, Decidable.not_not, Option.isNone_iff_eq_none, not_true_eq_false, not_false_eq_true] at hb); try (exfalso; omega))) | (refine v_cond rfl ?_ ?_ <;> (intro hb; (try simp only [decide_eq_true_eq, decide_eq_false_iff_not, Bool.not_eq_true', Bool.not_eq_false', ne_eq, Decidable.not_not, Option.isNone_iff_eq_none, not_true_eq_false, not_false_eq_true] at hb); try (exfalso; omega))) | fail)
  refine vl_q rfl rfl rfl rfl (vq_buildP (cs := (prfW 1 z32).cells) rfl (by simp [okS, Value.cells]) rfl) ?_
  have y2 : (prfW 1 z32).ok := prfW_ok (by decide) z32_len
  have ly := Prf.len y2
  repeat' (first | (refine goB ?_; intros) | (refine vl_caseG rfl rfl rfl rfl ?_ ?_ <;> (intro hb; (try simp only [decide_eq_true_eq, decide_eq_false_iff_not, Bool.not_eq_true', Bool.not_eq_false', ne_eq, Decidable.not_not, Option.isNone_iff_eq_none, not_true_eq_false, not_false_eq_true] at hb); try (exfalso; omega))) | (refine v_cond rfl ?_ ?_ <;> (intro hb; (try simp only [decide_eq_true_eq, decide_eq_false_iff_not, Bool.not_eq_true', Bool.not_eq_false', ne_eq, Decidable.not_not, Option.isNone_iff_eq_none, not_true_eq_false, not_false_eq_true] at hb); try (exfalso; omega))) | fail)
  refine vl_o rfl (vo_call rfl rfl ?_)
  refine vc_mono (check_vc w0 _ (prfW 1 z32) y2) ?_
  rintro v' L' ⟨rfl, rfl⟩
  rw [prfW_may]
  repeat' (first | (refine goB ?_; intros) | (refine vl_caseG rfl rfl rfl rfl ?_ ?_ <;> (intro hb; (try simp only [decide_eq_true_eq, decide_eq_false_iff_not, Bool.not_eq_true', Bool.not_eq_false', ne_eq, Decidable.not_not, Option.isNone_iff_eq_none, not_true_eq_false, not_false_eq_true] at hb); try (exfalso; omega))) | (refine v_cond rfl ?_ ?_ <;> (intro hb; (try simp only [decide_eq_true_eq, decide_eq_false_iff_not, Bool.not_eq_true', Bool.not_eq_false', ne_eq, Decidable.not_not, Option.isNone_iff_eq_none, not_true_eq_false, not_false_eq_true] at hb); try (exfalso; omega))) | fail)
  exact rfl
end Go.Proofs.YtmaimkbppnpbnaaDoor
