/-
  The chapter's first examples of trees.
-/
import Derived.Test.YtmaimkbppnpbnaaDoorTEaB
import Derived.Test.YtmaimkbppnpbnaaDoorTPrD
set_option linter.unusedVariables false
set_option linter.unusedSimpArgs false
namespace Go.Proofs.YtmaimkbppnpbnaaDoor
open Go Go.RowKit
set_option linter.unusedVariables false
set_option linter.unusedSimpArgs false
open Classical

noncomputable def tatE (ns : List Nd) (r q : Int) : Int := if MayP ns r then (if MayP ns q then 0 else 2) else 8
def RAt (w0 : World) (L : List Asn) (ns : List Nd) (r q : Int) (v : Value) (L' : List Asn) : Prop := ∃ a c ms s, v = .tuple #[.agg #[.slice a ms.length c, .int .i64 s], .int .i64 (tatE ns r q)] ∧ (if tatE ns r q = 0 then pls ms = pls ns ∧ s = q else ms = [] ∧ s = 0) ∧ L' = ownNs a c ms :: vnA ms :: L
set_option maxRecDepth 100000 in
set_option maxHeartbeats 1000000 in
theorem tat_vc (w0 : World) (L : List Asn) (a : Option Addr) (c : Nat) (ns : List Nd) (r q : Int) {n : Nat} (hn : n = ns.length) (hok : NsOk ns) [hr : RdC w0 L a (ndc ns)] [hv : RdNs w0 L ns] :
    VC Tryd.prog w0 23 [.agg #[.slice a n c, .int .i64 r], .int .i64 q] L (RAt w0 L ns r q) := by
  subst hn
  have hlen := hok.len
  refine vc_ent ?_
  refine vc_in rfl rfl ?_
  unfold RAt
  repeat' (first | (refine go1 ?_; intros) | (refine vl_caseG rfl rfl rfl rfl ?_ ?_ <;> (intro hb; (try simp only [decide_eq_true_eq, decide_eq_false_iff_not, Bool.not_eq_true', Bool.not_eq_false', ne_eq, Decidable.not_not, Option.isNone_iff_eq_none, not_true_eq_false, not_false_eq_true] at hb); try (exfalso; omega))) | (refine v_cond rfl ?_ ?_ <;> (intro hb; (try simp only [decide_eq_true_eq, decide_eq_false_iff_not, Bool.not_eq_true', Bool.not_eq_false', ne_eq, Decidable.not_not, Option.isNone_iff_eq_none, not_true_eq_false, not_false_eq_true] at hb); try (exfalso; omega))) | fail)
  refine vl_o rfl (vo_call rfl rfl ?_)
  refine vc_mono (tcheck_vc w0 _ a c ns r rfl hok) ?_
  rintro v L' ⟨rfl, rfl⟩
  by_cases hm : MayP ns r
  rotate_left
  · rw [if_neg hm, show tatE ns r q = 8 by unfold tatE; rw [if_neg hm]]
    repeat' (first | (refine go1 ?_; intros) | (refine vl_caseG rfl rfl rfl rfl ?_ ?_ <;> (intro hb; (try simp only [decide_eq_true_eq, decide_eq_false_iff_not, Bool.not_eq_true', Bool.not_eq_false', ne_eq, Decidable.not_not, Option.isNone_iff_eq_none, not_true_eq_false, not_false_eq_true] at hb); try (exfalso; omega))) | (refine v_cond rfl ?_ ?_ <;> (intro hb; (try simp only [decide_eq_true_eq, decide_eq_false_iff_not, Bool.not_eq_true', Bool.not_eq_false', ne_eq, Decidable.not_not, Option.isNone_iff_eq_none, not_true_eq_false, not_false_eq_true] at hb); try (exfalso; omega))) | fail)
    exact ⟨_, (SEI.out.trans (se_ns_nil L)).ent w0, none, 0, [], 0, rfl, by rw [if_neg (by decide)]; exact ⟨rfl, rfl⟩, rfl⟩
  rw [if_pos hm]
  repeat' (first | (refine go1 ?_; intros) | (refine vl_caseG rfl rfl rfl rfl ?_ ?_ <;> (intro hb; (try simp only [decide_eq_true_eq, decide_eq_false_iff_not, Bool.not_eq_true', Bool.not_eq_false', ne_eq, Decidable.not_not, Option.isNone_iff_eq_none, not_true_eq_false, not_false_eq_true] at hb); try (exfalso; omega))) | (refine v_cond rfl ?_ ?_ <;> (intro hb; (try simp only [decide_eq_true_eq, decide_eq_false_iff_not, Bool.not_eq_true', Bool.not_eq_false', ne_eq, Decidable.not_not, Option.isNone_iff_eq_none, not_true_eq_false, not_false_eq_true] at hb); try (exfalso; omega))) | fail)
  refine vl_o rfl (vo_call rfl rfl ?_)
  refine vc_mono (tcheck_vc w0 _ a c ns q rfl hok) ?_
  rintro v L' ⟨rfl, rfl⟩
  by_cases hq : MayP ns q
  rotate_left
  · rw [if_neg hq, show tatE ns r q = 2 by unfold tatE; rw [if_pos hm, if_neg hq]]
    repeat' (first | (refine go1 ?_; intros) | (refine vl_caseG rfl rfl rfl rfl ?_ ?_ <;> (intro hb; (try simp only [decide_eq_true_eq, decide_eq_false_iff_not, Bool.not_eq_true', Bool.not_eq_false', ne_eq, Decidable.not_not, Option.isNone_iff_eq_none, not_true_eq_false, not_false_eq_true] at hb); try (exfalso; omega))) | (refine v_cond rfl ?_ ?_ <;> (intro hb; (try simp only [decide_eq_true_eq, decide_eq_false_iff_not, Bool.not_eq_true', Bool.not_eq_false', ne_eq, Decidable.not_not, Option.isNone_iff_eq_none, not_true_eq_false, not_false_eq_true] at hb); try (exfalso; omega))) | fail)
    exact ⟨_, (SEI.out.trans (se_ns_nil L)).ent w0, none, 0, [], 0, rfl, by rw [if_neg (by decide)]; exact ⟨rfl, rfl⟩, rfl⟩
  rw [if_pos hq, show tatE ns r q = 0 by unfold tatE; rw [if_pos hm, if_pos hq]]
  repeat' (first | (refine go1 ?_; intros) | (refine vl_caseG rfl rfl rfl rfl ?_ ?_ <;> (intro hb; (try simp only [decide_eq_true_eq, decide_eq_false_iff_not, Bool.not_eq_true', Bool.not_eq_false', ne_eq, Decidable.not_not, Option.isNone_iff_eq_none, not_true_eq_false, not_false_eq_true] at hb); try (exfalso; omega))) | (refine v_cond rfl ?_ ?_ <;> (intro hb; (try simp only [decide_eq_true_eq, decide_eq_false_iff_not, Bool.not_eq_true', Bool.not_eq_false', ne_eq, Decidable.not_not, Option.isNone_iff_eq_none, not_true_eq_false, not_false_eq_true] at hb); try (exfalso; omega))) | fail)
  refine vl_o rfl (vo_call rfl rfl ?_)
  refine vc_mono (ttwin_vc w0 _ a c ns q rfl hok) ?_
  rintro v L' ⟨a1, c1, ms, rfl, hms, rfl⟩
  repeat' (first | (refine go1 ?_; intros) | (refine vl_caseG rfl rfl rfl rfl ?_ ?_ <;> (intro hb; (try simp only [decide_eq_true_eq, decide_eq_false_iff_not, Bool.not_eq_true', Bool.not_eq_false', ne_eq, Decidable.not_not, Option.isNone_iff_eq_none, not_true_eq_false, not_false_eq_true] at hb); try (exfalso; omega))) | (refine v_cond rfl ?_ ?_ <;> (intro hb; (try simp only [decide_eq_true_eq, decide_eq_false_iff_not, Bool.not_eq_true', Bool.not_eq_false', ne_eq, Decidable.not_not, Option.isNone_iff_eq_none, not_true_eq_false, not_false_eq_true] at hb); try (exfalso; omega))) | fail)
  exact ⟨_, sei _ _ (ownNs a1 c1 ms :: vnA ms :: L), a1, c1, ms, q, rfl, by rw [if_pos rfl]; exact ⟨hms, rfl⟩, rfl⟩
set_option maxRecDepth 100000 in
set_option maxHeartbeats 4000000 in
theorem alive6_vc (w0 : World) [hK : RdA w0 (some ⟨0, 0, none⟩) (wds K64)] (L : List Asn) :
    VC Tryd.prog w0 37 [] L fun v L' => v = .bool true ∧ L' = L := by
  have k3 := dk_len 3
  refine vc_ent ?_
  refine vc_in rfl rfl ?_
  repeat' (first | (refine goB ?_; intros) | (refine vl_caseG rfl rfl rfl rfl ?_ ?_ <;> (intro hb; (try simp only [decide_eq_true_eq, decide_eq_false_iff_not, Bool.not_eq_true', Bool.not_eq_false', ne_eq, Decidable.not_not, Option.isNone_iff_eq_none, not_true_eq_false, not_false_eq_true] at hb); try (exfalso; omega))) | (refine v_cond rfl ?_ ?_ <;> (intro hb; (try simp only [decide_eq_true_eq, decide_eq_false_iff_not, Bool.not_eq_true', Bool.not_eq_false', ne_eq, Decidable.not_not, Option.isNone_iff_eq_none, not_true_eq_false, not_false_eq_true] at hb); try (exfalso; omega))) | fail)
  refine vl_o rfl (vo_call rfl rfl ?_)
  refine vc_mono (tSum_vc (hr := rdC_nil _ _ _) (hv := rdNs_nil _ _) w0 _ none 0 [] 0 rfl nsOk_nil) ?_
  rintro v L1 ⟨rfl, hL1⟩
  have hL2 := hL1.symm
  subst hL2
  rw [show mayE [] 0 = 0 by unfold mayE; rw [if_pos tw_may], show sumT [] 0 = sha0 by unfold sumT; rw [if_pos tw_may, show Int.toNat 0 = 0 from rfl, sumP]]
  have hS := sha0_len
  obtain ⟨Z, hZ⟩ : ∃ Z, Z = sha0 := ⟨_, rfl⟩
  rw [← hZ] at hS ⊢
  repeat' (first | (refine goB ?_; intros) | (refine vl_caseG rfl rfl rfl rfl ?_ ?_ <;> (intro hb; (try simp only [decide_eq_true_eq, decide_eq_false_iff_not, Bool.not_eq_true', Bool.not_eq_false', ne_eq, Decidable.not_not, Option.isNone_iff_eq_none, not_true_eq_false, not_false_eq_true] at hb); try (exfalso; omega))) | (refine v_cond rfl ?_ ?_ <;> (intro hb; (try simp only [decide_eq_true_eq, decide_eq_false_iff_not, Bool.not_eq_true', Bool.not_eq_false', ne_eq, Decidable.not_not, Option.isNone_iff_eq_none, not_true_eq_false, not_false_eq_true] at hb); try (exfalso; omega))) | fail)
  refine vl_q rfl rfl rfl rfl (vq_dk (c := 3) rfl) ?_
  repeat' (first | (refine goB ?_; intros) | (refine vl_caseG rfl rfl rfl rfl ?_ ?_ <;> (intro hb; (try simp only [decide_eq_true_eq, decide_eq_false_iff_not, Bool.not_eq_true', Bool.not_eq_false', ne_eq, Decidable.not_not, Option.isNone_iff_eq_none, not_true_eq_false, not_false_eq_true] at hb); try (exfalso; omega))) | (refine v_cond rfl ?_ ?_ <;> (intro hb; (try simp only [decide_eq_true_eq, decide_eq_false_iff_not, Bool.not_eq_true', Bool.not_eq_false', ne_eq, Decidable.not_not, Option.isNone_iff_eq_none, not_true_eq_false, not_false_eq_true] at hb); try (exfalso; omega))) | fail)
  rename_i g0 g1
  haveI hrv : ∀ M, RdC w0 (rd (some ⟨g1, 0, none⟩) [.int .u8 97] :: M) (some ⟨g1, 0, none⟩) (bvs [97]) := fun M => (inferInstance : RdC w0 _ _ [.int .u8 97])
  refine vl_o rfl (vo_call rfl rfl ?_)
  refine vc_mono (tput_vc (hr := rdC_nil _ _ _) (hv := rdNs_nil _ _) w0 _ none 0 [] 0 (dk 3) _ _ [97] rfl rfl nsOk_nil k3 (by decide)) ?_
  rintro v L' ⟨a2, c2, es, s, rfl, hes, rfl⟩
  have e0 : tputE [] 0 [97] = 0 := by
    unfold tputE
    rw [if_pos ⟨tw_may, by decide⟩]
    rfl
  rw [e0, if_pos rfl, show forP [] (Int.toNat 0) = [] by rw [show Int.toNat 0 = 0 from rfl, forP], tw_put1] at hes
  rw [e0]
  refine vl_ent (L' := ownNs a2 c2 es :: vnA es :: blk g0 26 (bvs Z) :: L) (sei _ _ _) ?_
  repeat' (first | (refine goB ?_; intros) | (refine vl_caseG rfl rfl rfl rfl ?_ ?_ <;> (intro hb; (try simp only [decide_eq_true_eq, decide_eq_false_iff_not, Bool.not_eq_true', Bool.not_eq_false', ne_eq, Decidable.not_not, Option.isNone_iff_eq_none, not_true_eq_false, not_false_eq_true] at hb); try (exfalso; omega))) | (refine v_cond rfl ?_ ?_ <;> (intro hb; (try simp only [decide_eq_true_eq, decide_eq_false_iff_not, Bool.not_eq_true', Bool.not_eq_false', ne_eq, Decidable.not_not, Option.isNone_iff_eq_none, not_true_eq_false, not_false_eq_true] at hb); try (exfalso; omega))) | fail)
  refine vl_o rfl (vo_call rfl rfl ?_)
  refine vc_mono (tpairs_vc w0 _ a2 c2 es s rfl hes.ok) ?_
  rintro v L' ⟨x, rfl, a3, c3, ps, rfl, hps, rfl⟩
  rw [if_pos hes.may, hes.for'] at hps
  rw [if_pos hes.may]
  have okp : PsOk ps := for_ok hes.ok (fun _ _ => rfl) hes.may.right (by rw [hps, hes.for'])
  repeat' (first | (refine goB ?_; intros) | (refine vl_caseG rfl rfl rfl rfl ?_ ?_ <;> (intro hb; (try simp only [decide_eq_true_eq, decide_eq_false_iff_not, Bool.not_eq_true', Bool.not_eq_false', ne_eq, Decidable.not_not, Option.isNone_iff_eq_none, not_true_eq_false, not_false_eq_true] at hb); try (exfalso; omega))) | (refine v_cond rfl ?_ ?_ <;> (intro hb; (try simp only [decide_eq_true_eq, decide_eq_false_iff_not, Bool.not_eq_true', Bool.not_eq_false', ne_eq, Decidable.not_not, Option.isNone_iff_eq_none, not_true_eq_false, not_false_eq_true] at hb); try (exfalso; omega))) | fail)
  refine vl_o rfl (vo_call rfl rfl ?_)
  refine vc_mono (tat_vc w0 _ a2 c2 es s 0 rfl hes.ok) ?_
  rintro v L' ⟨a4, c4, fs, t, rfl, hfs, rfl⟩
  have hm0 : MayP es 0 := ⟨hes.may.len, by omega, by omega, hes.may.ones, by rw [show Int.toNat 0 = 0 from rfl, rightP]; decide⟩
  have eA : tatE es s 0 = 0 := by unfold tatE; rw [if_pos hes.may, if_pos hm0]
  rw [eA, if_pos rfl] at hfs
  rw [eA]
  obtain ⟨hfe, rfl⟩ := hfs
  have hof := hes.ok.of_pls hfe
  have hmf : MayP fs 0 := (mayP_eq hfe 0).2 hm0
  repeat' (first | (refine goB ?_; intros) | (refine vl_caseG rfl rfl rfl rfl ?_ ?_ <;> (intro hb; (try simp only [decide_eq_true_eq, decide_eq_false_iff_not, Bool.not_eq_true', Bool.not_eq_false', ne_eq, Decidable.not_not, Option.isNone_iff_eq_none, not_true_eq_false, not_false_eq_true] at hb); try (exfalso; omega))) | (refine v_cond rfl ?_ ?_ <;> (intro hb; (try simp only [decide_eq_true_eq, decide_eq_false_iff_not, Bool.not_eq_true', Bool.not_eq_false', ne_eq, Decidable.not_not, Option.isNone_iff_eq_none, not_true_eq_false, not_false_eq_true] at hb); try (exfalso; omega))) | fail)
  refine vl_o rfl (vo_call rfl rfl ?_)
  refine vc_mono (tpairs_vc w0 _ a4 c4 fs 0 rfl hof) ?_
  rintro v L' ⟨x, rfl, a5, c5, qs, rfl, hqs, rfl⟩
  rw [if_pos hmf, show Int.toNat 0 = 0 from rfl, show forP fs 0 = [] by rw [forP]] at hqs
  rw [if_pos hmf]
  have hq0 : qs = [] := List.map_eq_nil_iff.1 hqs
  subst hq0
  repeat' (first | (refine goB ?_; intros) | (refine vl_caseG rfl rfl rfl rfl ?_ ?_ <;> (intro hb; (try simp only [decide_eq_true_eq, decide_eq_false_iff_not, Bool.not_eq_true', Bool.not_eq_false', ne_eq, Decidable.not_not, Option.isNone_iff_eq_none, not_true_eq_false, not_false_eq_true] at hb); try (exfalso; omega))) | (refine v_cond rfl ?_ ?_ <;> (intro hb; (try simp only [decide_eq_true_eq, decide_eq_false_iff_not, Bool.not_eq_true', Bool.not_eq_false', ne_eq, Decidable.not_not, Option.isNone_iff_eq_none, not_true_eq_false, not_false_eq_true] at hb); try (exfalso; omega))) | fail)
  refine v_id ?_
  refine v_draw0 [] (by kernel_rfl) ?_
  refine va_takeA 0 rfl rfl rfl rfl ?_
  refine va_takeA 1 rfl rfl rfl rfl ?_
  refine va_takeA 2 rfl rfl rfl rfl ?_
  first | (refine va_takeGA 3 rfl rfl rfl rfl rfl rfl rfl rfl ?_) | (refine va_passGA 3 rfl rfl rfl rfl rfl rfl rfl rfl ?_)
  refine va_oneG 4 (by kernel_rfl) rfl rfl rfl rfl rfl rfl ?_
  first | refine vo_call rfl rfl ?_ | refine vo_callV rfl rfl rfl ?_
  refine vc_mono (tnone_vc w0 _) ?_
  rintro v L' ⟨rfl, rfl⟩
  rw [show sha [0] = sha0 from rfl, ← hZ]
  refine ⟨.inr (sei _ _ _), ?_⟩
  refine va_takeG 5 rfl rfl rfl rfl rfl rfl rfl rfl (by kernel_rfl) (fun _ _ _ _ h => h) (SE.ent (by repeat' (first | exact SE.refl _ | refine SE.cons _ ?_ | refine SE.trans (se_drop _ _) ?_)) _) (vq_eqBS rfl rfl hS) ?_
  refine va_takeA 6 rfl rfl rfl rfl ?_
  refine va_takeA 7 rfl rfl rfl rfl ?_
  first | (refine va_takeGA 8 rfl rfl rfl rfl rfl rfl rfl rfl ?_) | (refine va_passGA 8 rfl rfl rfl rfl rfl rfl rfl rfl ?_)
  first | (refine va_takeGA 9 rfl rfl rfl rfl rfl rfl rfl rfl ?_) | (refine va_passGA 9 rfl rfl rfl rfl rfl rfl rfl rfl ?_)
  refine va_takeA 10 rfl rfl rfl rfl ?_
  refine va_takeA 11 rfl rfl rfl rfl ?_
  first | (refine va_takeGA 12 rfl rfl rfl rfl rfl rfl rfl rfl ?_) | (refine va_passGA 12 rfl rfl rfl rfl rfl rfl rfl rfl ?_)
  first | (refine va_takeGA 13 rfl rfl rfl rfl rfl rfl rfl rfl ?_) | (refine va_passGA 13 rfl rfl rfl rfl rfl rfl rfl rfl ?_)
  refine va_takeA 14 rfl rfl rfl rfl ?_
  refine va_takeA 15 rfl rfl rfl rfl ?_
  first | (refine va_takeGA 16 rfl rfl rfl rfl rfl rfl rfl rfl ?_) | (refine va_passGA 16 rfl rfl rfl rfl rfl rfl rfl rfl ?_)
  refine va_takeG 17 rfl rfl rfl rfl rfl rfl rfl rfl (by kernel_rfl) (fun _ _ _ _ h => h) (SE.ent (by repeat' (first | exact SE.refl _ | refine SE.cons _ ?_ | refine SE.trans (se_drop _ _) ?_)) _) (vq_dk (c := 3) rfl) ?_
  refine va_oneG 18 (by kernel_rfl) rfl rfl rfl rfl rfl rfl ?_
  (first | (refine vo_box rfl rfl rfl ?_; intro _) | (refine vo_alloc rfl ?_; intro _) | (refine vo_isStore ?_; first | (refine vo_isPt0 rfl ?_; refine vo_stWA rfl rfl ?_) | (refine vo_isPt rfl ?_; refine vo_stBA rfl rfl ?_) | (refine vo_stO rfl rfl (by rfl) (by first | rfl | assumption) (by first | assumption | (simp; done) | (simp; omega) | omega) rfl ?_; skip)) | (refine vo_isCall ?_; first | (refine vo_isApp ?_; first | (refine vo_append0A rfl rfl rfl ?_; intro _ _ _ _) | (refine vo_appendA rfl rfl rfl ?_; intro _ _ _ _)) | (refine vo_isCopy ?_; refine vo_copyB rfl rfl rfl (by assumption) (by assumption) (by assumption) (by assumption) ?_) | refine vo_yield rfl rfl rfl rfl rfl ?_ | refine vo_callV rfl rfl rfl (vc_in rfl rfl ?_)) | refine vo_convRow rfl rfl ?_ | (refine vo_isBs ?_; refine vo_buildSlice rfl rfl rfl (by decide) (by repeat' (first | exact trivial | rfl | assumption | refine ⟨?_, ?_⟩ | (simp; done) | (simp; omega))) (by decide) rfl ?_; intro _) | (refine vo_buildSlice0 rfl ?_; intro _) | fail)
  rename_i gb
  refine ⟨.inr (sei _ _ _), ?_⟩
  refine va_oneG 19 (by kernel_rfl) rfl rfl rfl rfl rfl rfl ?_
  refine vo_convRow rfl rfl ?_
  refine ⟨.inr (sei _ _ _), ?_⟩
  refine va_takeG 20 rfl rfl rfl rfl rfl rfl rfl rfl (by kernel_rfl) (fun _ _ _ _ h => h) (SE.ent (by repeat' (first | exact SE.refl _ | refine SE.cons _ ?_ | refine SE.trans (se_drop _ _) ?_)) _) (vq_build (us := PR.cells ⟨dk 3, some ⟨gb, 0, none⟩, 1, [97]⟩) rfl rfl (by simp [plOf, Value.cells, k3]) (PR.len k3)) ?_
  have p33 : (PR.cells ⟨dk 3, some ⟨gb, 0, none⟩, 1, [97]⟩).length = 33 := PR.len k3
  refine va_oneG 21 (by kernel_rfl) rfl rfl rfl rfl rfl rfl ?_
  (first | (refine vo_box rfl rfl rfl ?_; intro _) | (refine vo_alloc rfl ?_; intro _) | (refine vo_isStore ?_; first | (refine vo_isPt0 rfl ?_; refine vo_stWA rfl rfl ?_) | (refine vo_isPt rfl ?_; refine vo_stBA rfl rfl ?_) | (refine vo_stO rfl rfl (by rfl) (by first | rfl | assumption) (by first | assumption | (simp; done) | (simp; omega) | omega) rfl ?_; skip)) | (refine vo_isCall ?_; first | (refine vo_isApp ?_; first | (refine vo_append0A rfl rfl rfl ?_; intro _ _ _ _) | (refine vo_appendA rfl rfl rfl ?_; intro _ _ _ _)) | (refine vo_isCopy ?_; refine vo_copyB rfl rfl rfl (by assumption) (by assumption) (by assumption) (by assumption) ?_) | refine vo_yield rfl rfl rfl rfl rfl ?_ | refine vo_callV rfl rfl rfl (vc_in rfl rfl ?_)) | refine vo_convRow rfl rfl ?_ | (refine vo_isBs ?_; refine vo_buildSlice rfl rfl rfl (by decide) (by repeat' (first | exact trivial | rfl | assumption | refine ⟨?_, ?_⟩ | (simp; done) | (simp; omega))) (by decide) rfl ?_; intro _) | (refine vo_buildSlice0 rfl ?_; intro _) | fail)
  rename_i gs
  refine ⟨.inr (sei _ _ _), ?_⟩
  refine va_oneG 22 (by kernel_rfl) rfl rfl rfl rfl rfl rfl ?_
  first | refine vo_call rfl rfl ?_ | refine vo_callV rfl rfl rfl ?_
  haveI r1 : ∀ M, RdC w0 (rd (some ⟨gb, 0, none⟩) [.int .u8 97] :: M) (some ⟨gb, 0, none⟩) (bvs [97]) := fun M => (inferInstance : RdC w0 _ _ [.int .u8 97])
  refine vc_mono (rsame_vc (hv2 := by exact rdVs_cons1 inferInstance (rdVs_nil _ _)) w0 _ a3 c3 ps (some ⟨gs, 0, none⟩) 1 [⟨dk 3, some ⟨gb, 0, none⟩, 1, [97]⟩] rfl rfl okp (psOk_one k3 (by simp))) ?_
  rintro v L' ⟨rfl, rfl⟩
  rw [decide_eq_true (show kvs ps = kvs [⟨dk 3, some ⟨gb, 0, none⟩, 1, [97]⟩] from hps)]
  refine ⟨.inr (sei _ _ _), ?_⟩
  refine va_takeA 23 rfl rfl rfl rfl ?_
  refine va_takeA 24 rfl rfl rfl rfl ?_
  first | (refine va_takeGA 25 rfl rfl rfl rfl rfl rfl rfl rfl ?_) | (refine va_passGA 25 rfl rfl rfl rfl rfl rfl rfl rfl ?_)
  first | (refine va_takeGA 26 rfl rfl rfl rfl rfl rfl rfl rfl ?_) | (refine va_passGA 26 rfl rfl rfl rfl rfl rfl rfl rfl ?_)
  refine va_takeA 27 rfl rfl rfl rfl ?_
  refine va_takeA 28 rfl rfl rfl rfl ?_
  first | (refine va_takeGA 29 rfl rfl rfl rfl rfl rfl rfl rfl ?_) | (refine va_passGA 29 rfl rfl rfl rfl rfl rfl rfl rfl ?_)
  first | (refine va_takeGA 30 rfl rfl rfl rfl rfl rfl rfl rfl ?_) | (refine va_passGA 30 rfl rfl rfl rfl rfl rfl rfl rfl ?_)
  refine va_takeA 31 rfl rfl rfl rfl ?_
  refine va_takeA 32 rfl rfl rfl rfl ?_
  first | (refine va_takeGA 33 rfl rfl rfl rfl rfl rfl rfl rfl ?_) | (refine va_passGA 33 rfl rfl rfl rfl rfl rfl rfl rfl ?_)
  first | (refine va_takeGA 34 rfl rfl rfl rfl rfl rfl rfl rfl ?_) | (refine va_passGA 34 rfl rfl rfl rfl rfl rfl rfl rfl ?_)
  first | (refine va_takeGA 35 rfl rfl rfl rfl rfl rfl rfl rfl ?_) | (refine va_passGA 35 rfl rfl rfl rfl rfl rfl rfl rfl ?_)
  refine va_takeA 36 rfl rfl rfl rfl ?_
  refine va_takeA 37 rfl rfl rfl rfl ?_
  refine va_done (by kernel_rfl) ?_
  repeat' (first | (refine goB ?_; intros) | (refine vl_caseG rfl rfl rfl rfl ?_ ?_ <;> (intro hb; (try simp only [decide_eq_true_eq, decide_eq_false_iff_not, Bool.not_eq_true', Bool.not_eq_false', ne_eq, Decidable.not_not, Option.isNone_iff_eq_none, not_true_eq_false, not_false_eq_true] at hb); try (exfalso; omega))) | (refine v_cond rfl ?_ ?_ <;> (intro hb; (try simp only [decide_eq_true_eq, decide_eq_false_iff_not, Bool.not_eq_true', Bool.not_eq_false', ne_eq, Decidable.not_not, Option.isNone_iff_eq_none, not_true_eq_false, not_false_eq_true] at hb); try (exfalso; omega))) | fail)
  exact ⟨L, sei _ _ _, rfl, rfl⟩
end Go.Proofs.YtmaimkbppnpbnaaDoor
