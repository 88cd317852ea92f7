/-
  A tree without a key: the program's.
-/
import Derived.Test.YtmaimkbppnpbnaaDoorTPtC
import Derived.Test.YtmaimkbppnpbnaaDoorTGtA
set_option linter.unusedVariables false
set_option linter.unusedSimpArgs false
namespace Go.Proofs.YtmaimkbppnpbnaaDoor
open Go Go.RowKit
set_option linter.unusedVariables false
set_option linter.unusedSimpArgs false
open Classical

noncomputable def tdropE (ns : List Nd) (r : Int) (k : List UInt8) : Int := if MayP ns r then (if has (forP ns r.toNat) k = true then (if 261844 < ns.length then 9 else 0) else 6) else 8
theorem grow_without {ns ms : List Nd} {r : Int} {k : List UInt8} (hok : NsOk ns) (hm : MayP ns r) (hms : pls ms = pls ns) (hh : has (forP ns r.toNat) k = true) (hbig : ns.length ≤ 261844) :
    GrowR ns (withoutP ms k r.toNat 0).1 (withoutP ms k r.toNat 0).2 (dropF (forP ns r.toNat) k) := by
  have hom := hok.of_pls hms
  have hmm := (mayP_eq hms r).2 hm
  have hlen := pls_len hms
  have W := without_law ms k r.toNat 0 zb (by have := hmm.hi; have := hmm.lo; omega) (fun _ _ => rfl) (fun m hm => by omega) (by rw [forP_eq hms]; exact hh) hmm.right
  obtain ⟨⟨es, e1, e2⟩, h2, h3, h4, h5⟩ := W
  have hq := congrArg List.length e1
  rw [List.length_append] at hq
  have hkq := without_keys hom.key k r.toNat 0
  have hsh := without_shape ms k r.toNat 0
  refine ⟨⟨by omega, by omega, by omega, h5 hmm.ones, by rw [Int.toNat_natCast]; exact h3⟩, ⟨hkq, ?_, by omega⟩, ?_, by omega, by omega, ?_, ?_⟩
  · obtain ⟨fs, g1, g2⟩ := hsh
    rw [g1]
    intro p hp
    rcases List.mem_append.1 hp with hp | hp
    · exact hom.vl p hp
    · rw [(g2 p hp).1]; simp
  · rw [e1, ← hlen, take_app]; exact hms
  · rw [Int.toNat_natCast, h4, forP_eq hms]
  · intro h0
    exfalso
    have hr0 : r.toNat = 0 := by have h1 := hm.hi; have h2 := hm.lo; rw [h0] at h1; simp at h1; omega
    rw [hr0, show forP ns 0 = [] by rw [forP]] at hh
    simp [has] at hh
set_option maxRecDepth 100000 in
set_option maxHeartbeats 4000000 in
theorem tdrop_vc (w0 : World) (L : List Asn) (a : Option Addr) (c : Nat) (ns : List Nd) (r : Int) (k : List UInt8) {n : Nat} (hn : n = ns.length) (hok : NsOk ns) (hlk : k.length = 32) (hb9 : ns.length ≤ 900000) [hr : RdC w0 L a (ndc ns)] [hv : RdNs w0 L ns] :
    VC Tryd.prog w0 36 [.agg #[.slice a n c, .int .i64 r], .agg (bvs k).toArray] L (RGrow w0 L ns (tdropE ns r k) (dropF (forP ns r.toNat) k)) := by
  subst hn
  have hlen := hok.len
  refine vc_ent ?_
  refine vc_in rfl rfl ?_
  have hbad : ∀ (e : Int) (M : List Asn), e ≠ 0 → tdropE ns r k = e → SE M L → ∃ L'', Ent w0 M L'' ∧ RGrow w0 L ns (tdropE ns r k) (dropF (forP ns r.toNat) k) (.tuple #[.agg #[.slice none 0 0, .int .i64 0], .int .i64 e]) L'' := fun e M h1 h2 h3 => ⟨_, (h3.trans (se_ns_nil L)).ent w0, none, 0, [], 0, by rw [h2]; rfl, by rw [h2, if_neg h1]; exact ⟨rfl, rfl⟩, rfl⟩
  repeat' (first | (refine go1 ?_; intros) | (refine vl_caseG rfl rfl rfl rfl ?_ ?_ <;> (intro hb; (try simp only [decide_eq_true_eq, decide_eq_false_iff_not, Bool.not_eq_true', Bool.not_eq_false', ne_eq, Decidable.not_not, Option.isNone_iff_eq_none, not_true_eq_false, not_false_eq_true] at hb); try (exfalso; omega))) | (refine v_cond rfl ?_ ?_ <;> (intro hb; (try simp only [decide_eq_true_eq, decide_eq_false_iff_not, Bool.not_eq_true', Bool.not_eq_false', ne_eq, Decidable.not_not, Option.isNone_iff_eq_none, not_true_eq_false, not_false_eq_true] at hb); try (exfalso; omega))) | fail)
  refine vl_o rfl (vo_call rfl rfl ?_)
  refine vc_mono (tcheck_vc w0 _ a c ns r rfl hok) ?_
  rintro v' L' ⟨rfl, rfl⟩
  by_cases hm : MayP ns r
  · rw [if_pos hm]
    obtain ⟨w1, w2⟩ := find_law (k := k) hm
    repeat' (first | (refine go1 ?_; intros) | (refine vl_caseG rfl rfl rfl rfl ?_ ?_ <;> (intro hb; (try simp only [decide_eq_true_eq, decide_eq_false_iff_not, Bool.not_eq_true', Bool.not_eq_false', ne_eq, Decidable.not_not, Option.isNone_iff_eq_none, not_true_eq_false, not_false_eq_true] at hb); try (exfalso; omega))) | (refine v_cond rfl ?_ ?_ <;> (intro hb; (try simp only [decide_eq_true_eq, decide_eq_false_iff_not, Bool.not_eq_true', Bool.not_eq_false', ne_eq, Decidable.not_not, Option.isNone_iff_eq_none, not_true_eq_false, not_false_eq_true] at hb); try (exfalso; omega))) | fail)
    refine vl_o rfl (vo_call rfl rfl ?_)
    refine vc_mono (find_vc w0 _ a c ns r k rfl hok hlk hm) ?_
    rintro v' L' ⟨rfl, rfl⟩
    generalize leafP ns k r.toNat 0 = j at *
    cases j with
    | zero =>
      have h0 := w1 rfl
      repeat' (first | (refine go1 ?_; intros) | (refine vl_caseG rfl rfl rfl rfl ?_ ?_ <;> (intro hb; (try simp only [decide_eq_true_eq, decide_eq_false_iff_not, Bool.not_eq_true', Bool.not_eq_false', ne_eq, Decidable.not_not, Option.isNone_iff_eq_none, not_true_eq_false, not_false_eq_true] at hb); try (exfalso; omega))) | (refine v_cond rfl ?_ ?_ <;> (intro hb; (try simp only [decide_eq_true_eq, decide_eq_false_iff_not, Bool.not_eq_true', Bool.not_eq_false', ne_eq, Decidable.not_not, Option.isNone_iff_eq_none, not_true_eq_false, not_false_eq_true] at hb); try (exfalso; omega))) | fail)
      exact hbad 6 _ (by decide) (by unfold tdropE; rw [if_pos hm, if_neg (by rw [h0]; decide)]) SEI.out
    | succ j =>
      obtain ⟨h1, h2, x, h3, h4⟩ := w2 j rfl
      repeat' (first | (refine go1 ?_; intros) | (refine vl_caseG rfl rfl rfl rfl ?_ ?_ <;> (intro hb; (try simp only [decide_eq_true_eq, decide_eq_false_iff_not, Bool.not_eq_true', Bool.not_eq_false', ne_eq, Decidable.not_not, Option.isNone_iff_eq_none, not_true_eq_false, not_false_eq_true] at hb); try (exfalso; omega))) | (refine v_cond rfl ?_ ?_ <;> (intro hb; (try simp only [decide_eq_true_eq, decide_eq_false_iff_not, Bool.not_eq_true', Bool.not_eq_false', ne_eq, Decidable.not_not, Option.isNone_iff_eq_none, not_true_eq_false, not_false_eq_true] at hb); try (exfalso; omega))) | fail)
      · exact hbad 9 _ (by decide) (by unfold tdropE; rw [if_pos hm, if_pos h2, if_pos (by omega)]) SEI.out
      refine vl_o rfl (vo_call rfl rfl ?_)
      refine vc_mono (ttwin_vc w0 _ a c ns r rfl hok) ?_
      rintro v' L' ⟨a5, c5, ms, rfl, hms, rfl⟩
      have hom := hok.of_pls hms
      have hmm := (mayP_eq hms r).2 hm
      have hml := pls_len hms
      have hG := grow_without (k := k) hok hm hms h2 (by omega)
      have hE : tdropE ns r k = 0 := by unfold tdropE; rw [if_pos hm, if_pos h2, if_neg (by omega)]
      obtain ⟨rn, hrn⟩ : ∃ rn : Nat, r = rn := ⟨r.toNat, by have := hm.lo; omega⟩
      have hrl := hmm.hi
      have hSE := fun M => se_vn_without ms k r.toNat 0 M
      have hW := fun g L a c => without_vc w0 g r k hlk ms a c hom.key hmm.ones (by omega) r.toNat L 0 zb (by omega) (fun _ _ => rfl) (fun m hm => by omega) (by rw [forP_eq hms]; exact h2) hmm.right
      rw [show ((r.toNat : Nat) : Int) = r by omega] at hW
      generalize withoutP ms k r.toNat 0 = q at *
      repeat' (first | (refine go1 ?_; intros) | (refine vl_caseG rfl rfl rfl rfl ?_ ?_ <;> (intro hb; (try simp only [decide_eq_true_eq, decide_eq_false_iff_not, Bool.not_eq_true', Bool.not_eq_false', ne_eq, Decidable.not_not, Option.isNone_iff_eq_none, not_true_eq_false, not_false_eq_true] at hb); try (exfalso; omega))) | (refine v_cond rfl ?_ ?_ <;> (intro hb; (try simp only [decide_eq_true_eq, decide_eq_false_iff_not, Bool.not_eq_true', Bool.not_eq_false', ne_eq, Decidable.not_not, Option.isNone_iff_eq_none, not_true_eq_false, not_false_eq_true] at hb); try (exfalso; omega))) | fail)
      rename_i g2 g3 g4 gm
      rw [show ([Value.slice a5 ms.length c5, Value.int .i64 r] ++ [] : List Value) = [.slice a5 ms.length c5, .int .i64 r] from rfl]
      refine v_draw0 [8, 12] (by kernel_rfl) ?_
      refine va_takeP 0 rfl rfl rfl rfl (by kernel_rfl) (fun _ _ _ _ h => h) (.inl (sei _ _ _)) (by (first | exact vq_move rfl | exact vq_assign rfl | (apply vq_isBin; first | exact vq_lt rfl rfl | exact vq_eq rfl rfl | exact vq_ne rfl rfl | (apply vq_isOp .add; exact vq_add rfl rfl (by first | exact wr_add (by omega) | exact wu_add (by omega) | exact wr_id (by omega) (by omega) | rfl)) | (apply vq_isOp .sub; exact vq_minus rfl rfl (by first | exact wr_sub (by omega) (by omega) | exact wu_sub (by omega) (by omega) | exact wr_id (by omega) (by omega) | rfl)) | exact vq_gt rfl rfl | exact vq_le rfl rfl | exact vq_ge rfl rfl | (apply vq_isOp .mul; exact vq_mul rfl rfl (by first | exact wr_mul (by omega) | exact wr_id (by omega) (by omega) | rfl)) | (apply vq_isOp .or; exact vq_or rfl rfl (by rfl)) | (apply vq_isOp .and; exact vq_and rfl rfl (by rfl)) | (apply vq_isOp .xor; exact vq_xor rfl rfl (by rfl)) | (apply vq_isOp .shl; exact vq_shl rfl rfl (by omega) (by rfl)) | (apply vq_isOp .shr; exact vq_shr rfl rfl (by omega) (by rfl)) | (apply vq_isOp .quo; exact vq_quo rfl rfl (by decide) (by first | exact q8_i64 (by omega) | exact q2_u8 (by omega) | exact q4_i64 (by omega) | assumption | rfl)) | (apply vq_isOp .rem; exact vq_rem rfl rfl (by decide) (by first | exact r8 | exact r2 | exact r4 | exact r64 | assumption | rfl)) | exact vq_eqNil rfl rfl | exact vq_eqBool rfl rfl | (apply vq_isOp .eql; exact vq_eqB rfl rfl (by first | assumption | (simp; done)) (by first | assumption | (simp; done))) | (apply vq_isOp .neq; first | exact vq_neBool rfl rfl | exact vq_neB rfl rfl (by first | assumption | (simp; done)) (by first | assumption | (simp; done)))) | (apply vq_isLoad; first | (apply vq_isPt; exact rfl; first | (apply vq_isOne; exact vq_ldB rfl (by first | rfl | assumption)) | (apply vq_isPt0; exact rfl; apply vq_isAgg; exact vq_ldW rfl (by first | rfl | assumption | (simp; done) | (simp; assumption))) | (apply vq_isAgg; exact vq_ldP rfl (by assumption) (by first | assumption | (simp; done) | (simp; assumption)))) | (apply vq_isPtA; exact rfl; first | (apply vq_isOne; exact vq_ld1 rfl (by first | assumption | rfl)) | exact vq_ldA rfl (by assumption) (by first | assumption | (simp; done) | (simp; assumption))) | fail) | exact vq_lenSl rfl | (apply vq_isIx; first | (apply vq_ixSl; exact rfl; exact vq_index rfl rfl (by omega) (by omega) (by first | assumption | (simp; done) | (simp; omega) | (rw [bvs_length]; omega)) (by first | exact ix_1 | exact ix_s _ | rfl)) | (apply vq_ixPt; exact rfl; exact vq_indexArr rfl rfl (by omega) (by omega) (by first | exact ix_1 | exact ix_s _ | rfl)) | exact vq_indexArrA rfl rfl (by first | assumption | (simp; done) | (rw [bvs_length]; omega) | (simp; omega)) (by omega) (by omega) (by first | exact ix_1 | exact ix_s _ | rfl)) | exact vq_extract rfl rfl | exact vq_pickT rfl rfl | exact vq_pickF rfl rfl | exact vq_fieldAddr rfl (by rfl) rfl | exact vq_fieldAddrO rfl (by first | assumption | (simp; done) | (simp; omega)) (by rfl) rfl | exact vq_makeFunc rfl rfl | exact vq_nilCheck rfl | (apply vq_isConv; exact vq_conv rfl (by first | exact wi_id (by omega) | exact wu_id (by omega) | exact wr_id (by omega) (by omega) | rfl)) | (apply vq_isUn; first | exact vq_not rfl | exact vq_xorU rfl (by rfl) | exact vq_neg rfl (by rfl)) | (apply vq_isSlice; first | exact vq_slice rfl (by first | exact bnd_none | exact bnd_nat rfl) (by first | exact bnd_none | exact bnd_nat rfl) (by first | exact bnd_none | exact bnd_nat rfl) rfl (by omega) (by omega) (by omega) | exact vq_sliceArr rfl rfl | exact vq_sliceArrO rfl (by first | assumption | (simp; done) | (simp; omega)) rfl) | (apply vq_isBuild; first | exact vq_build0 | exact vq_buildArr0 | exact vq_build rfl rfl (by first | rfl | (simp [plOf]; done)) (by first | rfl | (simp; done)) | exact vq_buildP rfl (by first | (simp [okS, Value.cells]; done) | (simp [okS, Value.cells]; omega)) rfl) | fail)) ?_
      refine va_takeA 1 rfl rfl rfl rfl ?_
      refine va_takeA 2 rfl rfl rfl rfl ?_
      refine va_takeA 3 rfl rfl rfl rfl ?_
      refine va_takeA 4 rfl rfl rfl rfl ?_
      refine va_takeA 5 rfl rfl rfl rfl ?_
      refine va_takeA 6 rfl rfl rfl rfl ?_
      refine va_takeA 7 rfl rfl rfl rfl ?_
      refine va_one 8 (by kernel_rfl) rfl rfl ?_
      first | refine vo_call rfl rfl ?_ | refine vo_callV rfl rfl rfl ?_
      refine vc_mono (vc_pre (sei w0 _ (mkB gm a5 c5 ms.length r :: ownNs a5 c5 ms :: vnA ms :: blk g4 24 [.slice none 0 0, .int .i64 0] :: L)) (hW _ _ _ _)) ?_
      rintro v' L' ⟨a6, c6, rfl, rfl⟩
      refine ⟨.inl (by kernel_rfl), ?_⟩
      refine va_takePA 9 rfl rfl rfl rfl ?_
      refine va_takePA 10 rfl rfl rfl rfl ?_
      refine va_takePA 11 rfl rfl rfl rfl ?_
      refine va_one 12 (by kernel_rfl) rfl rfl ?_
      (first | (refine vo_box rfl rfl rfl ?_; intro _) | (refine vo_alloc rfl ?_; intro _) | (refine vo_isStore ?_; first | (refine vo_isPt0 rfl ?_; refine vo_stWA rfl rfl ?_) | (refine vo_isPt rfl ?_; refine vo_stBA rfl rfl ?_) | (refine vo_stO rfl rfl (by rfl) (by first | rfl | assumption) (by first | assumption | (simp; done) | (simp; omega) | omega) rfl ?_; skip)) | (refine vo_isCall ?_; first | (refine vo_isApp ?_; first | (refine vo_append0A rfl rfl rfl ?_; intro _ _ _ _) | (refine vo_appendA rfl rfl rfl ?_; intro _ _ _ _)) | (refine vo_isCopy ?_; refine vo_copyB rfl rfl rfl (by assumption) (by assumption) (by assumption) (by assumption) ?_) | refine vo_yield rfl rfl rfl rfl rfl ?_ | refine vo_callV rfl rfl rfl (vc_in rfl rfl ?_)) | refine vo_convRow rfl rfl ?_ | (refine vo_isBs ?_; refine vo_buildSlice rfl rfl rfl (by decide) (by repeat' (first | exact trivial | rfl | assumption | refine ⟨?_, ?_⟩ | (simp; done) | (simp; omega))) (by decide) rfl ?_; intro _) | (refine vo_buildSlice0 rfl ?_; intro _) | fail)
      refine ⟨.inl (by kernel_rfl), ?_⟩
      refine va_done (by kernel_rfl) ?_
      rw [show splice [Value.slice a6 q.1.length c6, Value.int .i64 r] (0 + 0 + 1) [.int .i64 (q.2 : Nat)] = [.slice a6 q.1.length c6, .int .i64 (q.2 : Nat)] from rfl]
      repeat' (first | (refine go1 ?_; intros) | (refine vl_caseG rfl rfl rfl rfl ?_ ?_ <;> (intro hb; (try simp only [decide_eq_true_eq, decide_eq_false_iff_not, Bool.not_eq_true', Bool.not_eq_false', ne_eq, Decidable.not_not, Option.isNone_iff_eq_none, not_true_eq_false, not_false_eq_true] at hb); try (exfalso; omega))) | (refine v_cond rfl ?_ ?_ <;> (intro hb; (try simp only [decide_eq_true_eq, decide_eq_false_iff_not, Bool.not_eq_true', Bool.not_eq_false', ne_eq, Decidable.not_not, Option.isNone_iff_eq_none, not_true_eq_false, not_false_eq_true] at hb); try (exfalso; omega))) | fail)
      refine ⟨_, ?_, a6, c6, q.1, q.2, by rw [hE], by rw [hE, if_pos rfl]; exact hG, rfl⟩
      refine (sei w0 _ (vnA ms :: ownNs a6 c6 q.1 :: L)).trans (((hSE _).ent w0).trans (sei _ _ _))
  · rw [if_neg hm]
    repeat' (first | (refine go1 ?_; intros) | (refine vl_caseG rfl rfl rfl rfl ?_ ?_ <;> (intro hb; (try simp only [decide_eq_true_eq, decide_eq_false_iff_not, Bool.not_eq_true', Bool.not_eq_false', ne_eq, Decidable.not_not, Option.isNone_iff_eq_none, not_true_eq_false, not_false_eq_true] at hb); try (exfalso; omega))) | (refine v_cond rfl ?_ ?_ <;> (intro hb; (try simp only [decide_eq_true_eq, decide_eq_false_iff_not, Bool.not_eq_true', Bool.not_eq_false', ne_eq, Decidable.not_not, Option.isNone_iff_eq_none, not_true_eq_false, not_false_eq_true] at hb); try (exfalso; omega))) | fail)
    exact hbad 8 _ (by decide) (by unfold tdropE; rw [if_neg hm]) SEI.out
end Go.Proofs.YtmaimkbppnpbnaaDoor
