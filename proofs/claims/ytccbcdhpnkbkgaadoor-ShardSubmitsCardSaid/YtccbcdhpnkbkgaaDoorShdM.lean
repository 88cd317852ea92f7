/-
  Shards, the document's: the line whose last transaction goes; a shard with a transaction.
-/
import Derived.Test.YtccbcdhpnkbkgaaDoorShdI
import Derived.Test.YtccbcdhpnkbkgaaDoorGZ
set_option linter.unusedVariables false
set_option linter.unusedSimpArgs false
namespace Go.Proofs.YtccbcdhpnkbkgaaDoor
open Go Go.RowKit
set_option linter.unusedVariables false
set_option linter.unusedSimpArgs false
set_option linter.unusedSectionVars false
open Classical

set_option maxRecDepth 100000 in
set_option maxHeartbeats 4000000 in
theorem rworst20_vc (w0 : World) (L : List Asn) (a : Option Addr) (c : Nat) (ms : List Ln) (x : Tx) {n : Nat} (hn : n = ms.length) (hx : x.ok) (h : LsOk ms) (hne : ∀ l ∈ ms, 0 < l.xs.length) [hr : RdC w0 L a (lnc ms)] [hv : RdLs w0 L ms] :
    VC Tryd.prog w0 88 [.agg #[.slice a n c], .agg x.cells.toArray] L fun v L' => v = .int .i64 (worstC (lls ms) (fromT x) x.fee) ∧ L' = L := by
  subst hn
  have hlen := h.len
  have hxl := Tx.len hx
  have hx4 := Tx.f4 hx
  have hol := fromT_len x
  haveI oxc : OC x.cells := oc_tx _
  refine vc_ent ?_
  refine vc_in rfl rfl ?_
  obtain ⟨xc, hxc⟩ : ∃ xc, xc = x.cells := ⟨_, rfl⟩
  rw [← hxc] at hxl hx4 oxc ⊢
  repeat' (first | (refine go1 ?_; intros) | ((first | refine vl_caseG rfl rfl rfl rfl ?_ ?_ | refine v_cond rfl ?_ ?_) <;> (intro hb; (try simp only [hq1, hq2, hq3, hq4, ne_eq, hq5, hq6, hq7, hq8] at hb); try (exfalso; omega))) | fail)
  refine v_loopF (Nat × Int × Nat) [2, 3, 4] rfl (fun s => [(7, .int .i64 s.1), (5, .int .i64 s.2.1), (6, .int .u64 s.2.2)]) (fun M _ => M) (fun s => s.1 ≤ ms.length ∧ worstG (fromT x) ((lls ms).drop s.1) s.1 s.2.1 s.2.2 = worstC (lls ms) (fromT x) x.fee) (fun s => ms.length - s.1) (0, -1, x.fee) ⟨Nat.zero_le _, rfl⟩ (by (repeat' (first | exact Sub.nil _ | refine Sub.cons rfl rfl ?_ | refine Sub.cons rfl ?_ ?_))) (Ent.refl _ _) ?_
  rintro ⟨i, w, least⟩ ⟨hi, hinv⟩
  dsimp only at hi hinv ⊢
  by_cases hlt : i < ms.length
  rotate_left
  · obtain rfl : i = ms.length := by omega
    rw [worstG_end] at hinv
    repeat' (first | (refine go1 ?_; intros) | ((first | refine vl_caseG rfl rfl rfl rfl ?_ ?_ | refine v_cond rfl ?_ ?_) <;> (intro hb; (try simp only [hq1, hq2, hq3, hq4, ne_eq, hq5, hq6, hq7, hq8] at hb); try (exfalso; omega))) | fail)
    exact ⟨_, sei _ _ L, by rw [hinv], rfl⟩
  have hstep := worstG_ms (o := fromT x) hlt w least
  rw [hstep] at hinv
  have e := h.e i hlt
  have hpos := h.pos i hlt
  have lok := h.at i hlt
  have hn := hne _ (List.getElem_mem hlt)
  haveI := hv.at i hlt
  have hts := lok.ts
  have htl := hts.len
  have e4 := hts.e4 (ms[i].xs.length - 1) (by omega)
  have hp4 := hts.pos (ms[i].xs.length - 1) (by omega)
  have hlf := lastFee_at hn
  have lf0 := Ln.f0 lok.own
  have lf1 := Ln.f1 lok.own
  have hql := lok.own
  have hcl := Ln.len lok.own
  rw [← hlf] at e4
  generalize lastFee ms[i].xs = lf at *
  generalize ms[i] = l at *
  haveI olc : OC l.cells := oc_ln _
  obtain ⟨cs, hcs⟩ : ∃ cs, cs = l.cells := ⟨_, rfl⟩
  rw [← hcs] at e lf0 lf1 hcl olc
  by_cases hqo : l.own = fromT x
  · rw [if_neg (fun e => e.1 hqo)] at hinv
    repeat' (first | (refine go1 ?_; intros) | ((first | refine vl_caseG rfl rfl rfl rfl ?_ ?_ | refine v_cond rfl ?_ ?_) <;> (intro hb; (try simp only [hq1, hq2, hq3, hq4, ne_eq, hq5, hq6, hq7, hq8] at hb); try (exfalso; omega))) | fail)
    (refine v_draw0 [] (by kernel_rfl) ?_ <;> (refine va_takeA 0 rfl rfl rfl rfl ?_) <;> (refine va_takeA 1 rfl rfl rfl rfl ?_) <;> (refine va_takeA 2 rfl rfl rfl rfl ?_))
    first | refine va_one 3 (by kernel_rfl) rfl rfl (vo_call rfl rfl ?_) | refine va_one 3 (by kernel_rfl) rfl rfl (vo_callV rfl rfl rfl ?_)
    rw [hxc]
    refine vc_mono (rFrom_vc w0 _ x hx) ?_
    rintro v L' ⟨rfl, rfl⟩
    rw [← hxc, show sha (tagB 3 [x.pub]) = fromT x from rfl]
    refine ⟨.inr (SE.ent (by repeat' (first | exact SE.refl _ | refine SE.cons _ ?_ | refine SE.trans (se_drop _ _) ?_)) _), ?_⟩
    ((refine va_take 4 rfl rfl rfl rfl (by kernel_rfl) (fun _ _ _ _ h => h) (SE.ent (by repeat' (first | exact SE.refl _ | refine SE.cons _ ?_ | refine SE.trans (se_drop _ _) ?_)) _) (by (first | (apply vq_isBin; first | (apply vq_isOp .neq; first | exact vq_neTxD rfl rfl (by assumption) (by assumption) (by assumption) | exact vq_neD rfl rfl (by first | assumption | (simp; done)) (by first | assumption | (simp; done)) (by assumption) | exact vq_neE' rfl rfl (by first | assumption | (simp; done)) (by first | assumption | (simp; done)) (by assumption)) | (apply vq_isOp .eql; first | exact vq_eqTxD rfl rfl (by assumption) (by assumption) (by assumption) | exact vq_eqTxE rfl rfl (by assumption) (by assumption) (by first | assumption | rfl) | exact vq_eqD rfl rfl (by first | assumption | (simp; done)) (by first | assumption | (simp; done)) (by assumption) | exact vq_eqE' rfl rfl (by first | assumption | (simp; done)) (by first | assumption | (simp; done)) (by assumption))) | (apply vq_isBin; first | exact vq_lt rfl rfl | exact vq_eq rfl rfl | exact vq_ne rfl rfl | (apply vq_isOp .add; exact vq_add rfl rfl (by first | exact wr_add (by omega) | exact wu_add (by omega) | exact wr_id (by omega) (by omega) | rfl)) | (apply vq_isOp .sub; exact vq_minus rfl rfl (by first | exact wr_sub (by omega) (by omega) | exact wu_sub (by omega) (by omega) | exact wr_id (by omega) (by omega) | rfl)) | exact vq_gt rfl rfl | exact vq_le rfl rfl | exact vq_ge rfl rfl | (apply vq_isOp .mul; exact vq_mul rfl rfl (by first | exact wr_mul (by omega) | exact wr_id (by omega) (by omega) | rfl)) | (apply vq_isOp .or; exact vq_or rfl rfl (by rfl)) | (apply vq_isOp .and; exact vq_and rfl rfl (by rfl)) | (apply vq_isOp .xor; exact vq_xor rfl rfl (by rfl)) | (apply vq_isOp .shl; exact vq_shl rfl rfl (by omega) (by rfl)) | (apply vq_isOp .shr; exact vq_shr rfl rfl (by omega) (by rfl)) | (apply vq_isOp .quo; exact vq_quo rfl rfl (by decide) (by first | exact q8_i64 (by omega) | exact q2_u8 (by omega) | exact q4_i64 (by omega) | assumption | rfl)) | (apply vq_isOp .rem; exact vq_rem rfl rfl (by decide) (by first | exact r8 | exact r2 | exact r4 | exact r64 | assumption | rfl)) | exact vq_eqNil rfl rfl | exact vq_eqBool rfl rfl | (apply vq_isOp .eql; exact vq_eqB rfl rfl (by first | assumption | (simp; done)) (by first | assumption | (simp; done))) | (apply vq_isOp .neq; first | exact vq_neBool rfl rfl | exact vq_neB rfl rfl (by first | assumption | (simp; done)) (by first | assumption | (simp; done)))))) ?_) <;> (refine va_takeA 5 rfl rfl rfl rfl ?_) <;> (first | refine va_takeGA 6 rfl rfl rfl rfl rfl rfl rfl rfl ?_ | refine va_passGA 6 rfl rfl rfl rfl rfl rfl rfl rfl ?_ | (refine va_caseG 6 rfl rfl rfl rfl rfl ?_ ?_ <;> (intro hb; (try simp only [hq1, hq2, hq3, hq4, ne_eq, hq5, hq6, hq7, hq8] at hb); try (exfalso; omega)) <;> first | refine va_takeGA 6 rfl rfl rfl rfl rfl rfl rfl rfl ?_ | refine va_passGA 6 rfl rfl rfl rfl rfl rfl rfl rfl ?_)) <;> (first | refine va_takeGA 7 rfl rfl rfl rfl rfl rfl rfl rfl ?_ | refine va_passGA 7 rfl rfl rfl rfl rfl rfl rfl rfl ?_ | (refine va_caseG 7 rfl rfl rfl rfl rfl ?_ ?_ <;> (intro hb; (try simp only [hq1, hq2, hq3, hq4, ne_eq, hq5, hq6, hq7, hq8] at hb); try (exfalso; omega)) <;> first | refine va_takeGA 7 rfl rfl rfl rfl rfl rfl rfl rfl ?_ | refine va_passGA 7 rfl rfl rfl rfl rfl rfl rfl rfl ?_)) <;> (first | refine va_takeG 8 rfl rfl rfl rfl rfl rfl rfl rfl (by kernel_rfl) (fun _ _ _ _ h => h) (SE.ent (by repeat' (first | exact SE.refl _ | refine SE.cons _ ?_ | refine SE.trans (se_drop _ _) ?_)) _) (by (first | (apply vq_isBin; first | (apply vq_isOp .neq; first | exact vq_neTxD rfl rfl (by assumption) (by assumption) (by assumption) | exact vq_neD rfl rfl (by first | assumption | (simp; done)) (by first | assumption | (simp; done)) (by assumption) | exact vq_neE' rfl rfl (by first | assumption | (simp; done)) (by first | assumption | (simp; done)) (by assumption)) | (apply vq_isOp .eql; first | exact vq_eqTxD rfl rfl (by assumption) (by assumption) (by assumption) | exact vq_eqTxE rfl rfl (by assumption) (by assumption) (by first | assumption | rfl) | exact vq_eqD rfl rfl (by first | assumption | (simp; done)) (by first | assumption | (simp; done)) (by assumption) | exact vq_eqE' rfl rfl (by first | assumption | (simp; done)) (by first | assumption | (simp; done)) (by assumption))) | (apply vq_isBin; first | exact vq_lt rfl rfl | exact vq_eq rfl rfl | exact vq_ne rfl rfl | (apply vq_isOp .add; exact vq_add rfl rfl (by first | exact wr_add (by omega) | exact wu_add (by omega) | exact wr_id (by omega) (by omega) | rfl)) | (apply vq_isOp .sub; exact vq_minus rfl rfl (by first | exact wr_sub (by omega) (by omega) | exact wu_sub (by omega) (by omega) | exact wr_id (by omega) (by omega) | rfl)) | exact vq_gt rfl rfl | exact vq_le rfl rfl | exact vq_ge rfl rfl | (apply vq_isOp .mul; exact vq_mul rfl rfl (by first | exact wr_mul (by omega) | exact wr_id (by omega) (by omega) | rfl)) | (apply vq_isOp .or; exact vq_or rfl rfl (by rfl)) | (apply vq_isOp .and; exact vq_and rfl rfl (by rfl)) | (apply vq_isOp .xor; exact vq_xor rfl rfl (by rfl)) | (apply vq_isOp .shl; exact vq_shl rfl rfl (by omega) (by rfl)) | (apply vq_isOp .shr; exact vq_shr rfl rfl (by omega) (by rfl)) | (apply vq_isOp .quo; exact vq_quo rfl rfl (by decide) (by first | exact q8_i64 (by omega) | exact q2_u8 (by omega) | exact q4_i64 (by omega) | assumption | rfl)) | (apply vq_isOp .rem; exact vq_rem rfl rfl (by decide) (by first | exact r8 | exact r2 | exact r4 | exact r64 | assumption | rfl)) | exact vq_eqNil rfl rfl | exact vq_eqBool rfl rfl | (apply vq_isOp .eql; exact vq_eqB rfl rfl (by first | assumption | (simp; done)) (by first | assumption | (simp; done))) | (apply vq_isOp .neq; first | exact vq_neBool rfl rfl | exact vq_neB rfl rfl (by first | assumption | (simp; done)) (by first | assumption | (simp; done)))))) ?_ | refine va_passGA 8 rfl rfl rfl rfl rfl rfl rfl rfl ?_ | (refine va_caseG 8 rfl rfl rfl rfl rfl ?_ ?_ <;> (intro hb; (try simp only [hq1, hq2, hq3, hq4, ne_eq, hq5, hq6, hq7, hq8] at hb); try (exfalso; omega)) <;> first | refine va_takeG 8 rfl rfl rfl rfl rfl rfl rfl rfl (by kernel_rfl) (fun _ _ _ _ h => h) (SE.ent (by repeat' (first | exact SE.refl _ | refine SE.cons _ ?_ | refine SE.trans (se_drop _ _) ?_)) _) (by (first | (apply vq_isBin; first | (apply vq_isOp .neq; first | exact vq_neTxD rfl rfl (by assumption) (by assumption) (by assumption) | exact vq_neD rfl rfl (by first | assumption | (simp; done)) (by first | assumption | (simp; done)) (by assumption) | exact vq_neE' rfl rfl (by first | assumption | (simp; done)) (by first | assumption | (simp; done)) (by assumption)) | (apply vq_isOp .eql; first | exact vq_eqTxD rfl rfl (by assumption) (by assumption) (by assumption) | exact vq_eqTxE rfl rfl (by assumption) (by assumption) (by first | assumption | rfl) | exact vq_eqD rfl rfl (by first | assumption | (simp; done)) (by first | assumption | (simp; done)) (by assumption) | exact vq_eqE' rfl rfl (by first | assumption | (simp; done)) (by first | assumption | (simp; done)) (by assumption))) | (apply vq_isBin; first | exact vq_lt rfl rfl | exact vq_eq rfl rfl | exact vq_ne rfl rfl | (apply vq_isOp .add; exact vq_add rfl rfl (by first | exact wr_add (by omega) | exact wu_add (by omega) | exact wr_id (by omega) (by omega) | rfl)) | (apply vq_isOp .sub; exact vq_minus rfl rfl (by first | exact wr_sub (by omega) (by omega) | exact wu_sub (by omega) (by omega) | exact wr_id (by omega) (by omega) | rfl)) | exact vq_gt rfl rfl | exact vq_le rfl rfl | exact vq_ge rfl rfl | (apply vq_isOp .mul; exact vq_mul rfl rfl (by first | exact wr_mul (by omega) | exact wr_id (by omega) (by omega) | rfl)) | (apply vq_isOp .or; exact vq_or rfl rfl (by rfl)) | (apply vq_isOp .and; exact vq_and rfl rfl (by rfl)) | (apply vq_isOp .xor; exact vq_xor rfl rfl (by rfl)) | (apply vq_isOp .shl; exact vq_shl rfl rfl (by omega) (by rfl)) | (apply vq_isOp .shr; exact vq_shr rfl rfl (by omega) (by rfl)) | (apply vq_isOp .quo; exact vq_quo rfl rfl (by decide) (by first | exact q8_i64 (by omega) | exact q2_u8 (by omega) | exact q4_i64 (by omega) | assumption | rfl)) | (apply vq_isOp .rem; exact vq_rem rfl rfl (by decide) (by first | exact r8 | exact r2 | exact r4 | exact r64 | assumption | rfl)) | exact vq_eqNil rfl rfl | exact vq_eqBool rfl rfl | (apply vq_isOp .eql; exact vq_eqB rfl rfl (by first | assumption | (simp; done)) (by first | assumption | (simp; done))) | (apply vq_isOp .neq; first | exact vq_neBool rfl rfl | exact vq_neB rfl rfl (by first | assumption | (simp; done)) (by first | assumption | (simp; done)))))) ?_ | refine va_passGA 8 rfl rfl rfl rfl rfl rfl rfl rfl ?_)) <;> (refine va_takeA 9 rfl rfl rfl rfl ?_) <;> (refine va_done (by kernel_rfl) ?_))
    repeat' (first | (refine go1 ?_; intros) | ((first | refine vl_caseG rfl rfl rfl rfl ?_ ?_ | refine v_cond rfl ?_ ?_) <;> (intro hb; (try simp only [hq1, hq2, hq3, hq4, ne_eq, hq5, hq6, hq7, hq8] at hb); try (exfalso; omega))) | fail)
    exact ⟨rfl, (i + 1, w, least), ⟨by dsimp only; omega, hinv⟩, by dsimp only; omega, by (repeat' (first | exact Sub.nil _ | refine Sub.cons rfl rfl ?_ | refine Sub.cons rfl ?_ ?_)), sei _ _ _⟩
  by_cases hlt2 : lf < least
  · rw [if_pos ⟨hqo, hlt2⟩] at hinv
    repeat' (first | (refine go1 ?_; intros) | ((first | refine vl_caseG rfl rfl rfl rfl ?_ ?_ | refine v_cond rfl ?_ ?_) <;> (intro hb; (try simp only [hq1, hq2, hq3, hq4, ne_eq, hq5, hq6, hq7, hq8] at hb); try (exfalso; omega))) | fail)
    (refine v_draw0 [] (by kernel_rfl) ?_ <;> (refine va_takeA 0 rfl rfl rfl rfl ?_) <;> (refine va_takeA 1 rfl rfl rfl rfl ?_) <;> (refine va_takeA 2 rfl rfl rfl rfl ?_))
    first | refine va_one 3 (by kernel_rfl) rfl rfl (vo_call rfl rfl ?_) | refine va_one 3 (by kernel_rfl) rfl rfl (vo_callV rfl rfl rfl ?_)
    rw [hxc]
    refine vc_mono (rFrom_vc w0 _ x hx) ?_
    rintro v L' ⟨rfl, rfl⟩
    rw [← hxc, show sha (tagB 3 [x.pub]) = fromT x from rfl]
    refine ⟨.inr (SE.ent (by repeat' (first | exact SE.refl _ | refine SE.cons _ ?_ | refine SE.trans (se_drop _ _) ?_)) _), ?_⟩
    ((refine va_take 4 rfl rfl rfl rfl (by kernel_rfl) (fun _ _ _ _ h => h) (SE.ent (by repeat' (first | exact SE.refl _ | refine SE.cons _ ?_ | refine SE.trans (se_drop _ _) ?_)) _) (by (first | (apply vq_isBin; first | (apply vq_isOp .neq; first | exact vq_neTxD rfl rfl (by assumption) (by assumption) (by assumption) | exact vq_neD rfl rfl (by first | assumption | (simp; done)) (by first | assumption | (simp; done)) (by assumption) | exact vq_neE' rfl rfl (by first | assumption | (simp; done)) (by first | assumption | (simp; done)) (by assumption)) | (apply vq_isOp .eql; first | exact vq_eqTxD rfl rfl (by assumption) (by assumption) (by assumption) | exact vq_eqTxE rfl rfl (by assumption) (by assumption) (by first | assumption | rfl) | exact vq_eqD rfl rfl (by first | assumption | (simp; done)) (by first | assumption | (simp; done)) (by assumption) | exact vq_eqE' rfl rfl (by first | assumption | (simp; done)) (by first | assumption | (simp; done)) (by assumption))) | (apply vq_isBin; first | exact vq_lt rfl rfl | exact vq_eq rfl rfl | exact vq_ne rfl rfl | (apply vq_isOp .add; exact vq_add rfl rfl (by first | exact wr_add (by omega) | exact wu_add (by omega) | exact wr_id (by omega) (by omega) | rfl)) | (apply vq_isOp .sub; exact vq_minus rfl rfl (by first | exact wr_sub (by omega) (by omega) | exact wu_sub (by omega) (by omega) | exact wr_id (by omega) (by omega) | rfl)) | exact vq_gt rfl rfl | exact vq_le rfl rfl | exact vq_ge rfl rfl | (apply vq_isOp .mul; exact vq_mul rfl rfl (by first | exact wr_mul (by omega) | exact wr_id (by omega) (by omega) | rfl)) | (apply vq_isOp .or; exact vq_or rfl rfl (by rfl)) | (apply vq_isOp .and; exact vq_and rfl rfl (by rfl)) | (apply vq_isOp .xor; exact vq_xor rfl rfl (by rfl)) | (apply vq_isOp .shl; exact vq_shl rfl rfl (by omega) (by rfl)) | (apply vq_isOp .shr; exact vq_shr rfl rfl (by omega) (by rfl)) | (apply vq_isOp .quo; exact vq_quo rfl rfl (by decide) (by first | exact q8_i64 (by omega) | exact q2_u8 (by omega) | exact q4_i64 (by omega) | assumption | rfl)) | (apply vq_isOp .rem; exact vq_rem rfl rfl (by decide) (by first | exact r8 | exact r2 | exact r4 | exact r64 | assumption | rfl)) | exact vq_eqNil rfl rfl | exact vq_eqBool rfl rfl | (apply vq_isOp .eql; exact vq_eqB rfl rfl (by first | assumption | (simp; done)) (by first | assumption | (simp; done))) | (apply vq_isOp .neq; first | exact vq_neBool rfl rfl | exact vq_neB rfl rfl (by first | assumption | (simp; done)) (by first | assumption | (simp; done)))))) ?_) <;> (refine va_takeA 5 rfl rfl rfl rfl ?_) <;> (first | refine va_takeGA 6 rfl rfl rfl rfl rfl rfl rfl rfl ?_ | refine va_passGA 6 rfl rfl rfl rfl rfl rfl rfl rfl ?_ | (refine va_caseG 6 rfl rfl rfl rfl rfl ?_ ?_ <;> (intro hb; (try simp only [hq1, hq2, hq3, hq4, ne_eq, hq5, hq6, hq7, hq8] at hb); try (exfalso; omega)) <;> first | refine va_takeGA 6 rfl rfl rfl rfl rfl rfl rfl rfl ?_ | refine va_passGA 6 rfl rfl rfl rfl rfl rfl rfl rfl ?_)) <;> (first | refine va_takeGA 7 rfl rfl rfl rfl rfl rfl rfl rfl ?_ | refine va_passGA 7 rfl rfl rfl rfl rfl rfl rfl rfl ?_ | (refine va_caseG 7 rfl rfl rfl rfl rfl ?_ ?_ <;> (intro hb; (try simp only [hq1, hq2, hq3, hq4, ne_eq, hq5, hq6, hq7, hq8] at hb); try (exfalso; omega)) <;> first | refine va_takeGA 7 rfl rfl rfl rfl rfl rfl rfl rfl ?_ | refine va_passGA 7 rfl rfl rfl rfl rfl rfl rfl rfl ?_)) <;> (first | refine va_takeG 8 rfl rfl rfl rfl rfl rfl rfl rfl (by kernel_rfl) (fun _ _ _ _ h => h) (SE.ent (by repeat' (first | exact SE.refl _ | refine SE.cons _ ?_ | refine SE.trans (se_drop _ _) ?_)) _) (by (first | (apply vq_isBin; first | (apply vq_isOp .neq; first | exact vq_neTxD rfl rfl (by assumption) (by assumption) (by assumption) | exact vq_neD rfl rfl (by first | assumption | (simp; done)) (by first | assumption | (simp; done)) (by assumption) | exact vq_neE' rfl rfl (by first | assumption | (simp; done)) (by first | assumption | (simp; done)) (by assumption)) | (apply vq_isOp .eql; first | exact vq_eqTxD rfl rfl (by assumption) (by assumption) (by assumption) | exact vq_eqTxE rfl rfl (by assumption) (by assumption) (by first | assumption | rfl) | exact vq_eqD rfl rfl (by first | assumption | (simp; done)) (by first | assumption | (simp; done)) (by assumption) | exact vq_eqE' rfl rfl (by first | assumption | (simp; done)) (by first | assumption | (simp; done)) (by assumption))) | (apply vq_isBin; first | exact vq_lt rfl rfl | exact vq_eq rfl rfl | exact vq_ne rfl rfl | (apply vq_isOp .add; exact vq_add rfl rfl (by first | exact wr_add (by omega) | exact wu_add (by omega) | exact wr_id (by omega) (by omega) | rfl)) | (apply vq_isOp .sub; exact vq_minus rfl rfl (by first | exact wr_sub (by omega) (by omega) | exact wu_sub (by omega) (by omega) | exact wr_id (by omega) (by omega) | rfl)) | exact vq_gt rfl rfl | exact vq_le rfl rfl | exact vq_ge rfl rfl | (apply vq_isOp .mul; exact vq_mul rfl rfl (by first | exact wr_mul (by omega) | exact wr_id (by omega) (by omega) | rfl)) | (apply vq_isOp .or; exact vq_or rfl rfl (by rfl)) | (apply vq_isOp .and; exact vq_and rfl rfl (by rfl)) | (apply vq_isOp .xor; exact vq_xor rfl rfl (by rfl)) | (apply vq_isOp .shl; exact vq_shl rfl rfl (by omega) (by rfl)) | (apply vq_isOp .shr; exact vq_shr rfl rfl (by omega) (by rfl)) | (apply vq_isOp .quo; exact vq_quo rfl rfl (by decide) (by first | exact q8_i64 (by omega) | exact q2_u8 (by omega) | exact q4_i64 (by omega) | assumption | rfl)) | (apply vq_isOp .rem; exact vq_rem rfl rfl (by decide) (by first | exact r8 | exact r2 | exact r4 | exact r64 | assumption | rfl)) | exact vq_eqNil rfl rfl | exact vq_eqBool rfl rfl | (apply vq_isOp .eql; exact vq_eqB rfl rfl (by first | assumption | (simp; done)) (by first | assumption | (simp; done))) | (apply vq_isOp .neq; first | exact vq_neBool rfl rfl | exact vq_neB rfl rfl (by first | assumption | (simp; done)) (by first | assumption | (simp; done)))))) ?_ | refine va_passGA 8 rfl rfl rfl rfl rfl rfl rfl rfl ?_ | (refine va_caseG 8 rfl rfl rfl rfl rfl ?_ ?_ <;> (intro hb; (try simp only [hq1, hq2, hq3, hq4, ne_eq, hq5, hq6, hq7, hq8] at hb); try (exfalso; omega)) <;> first | refine va_takeG 8 rfl rfl rfl rfl rfl rfl rfl rfl (by kernel_rfl) (fun _ _ _ _ h => h) (SE.ent (by repeat' (first | exact SE.refl _ | refine SE.cons _ ?_ | refine SE.trans (se_drop _ _) ?_)) _) (by (first | (apply vq_isBin; first | (apply vq_isOp .neq; first | exact vq_neTxD rfl rfl (by assumption) (by assumption) (by assumption) | exact vq_neD rfl rfl (by first | assumption | (simp; done)) (by first | assumption | (simp; done)) (by assumption) | exact vq_neE' rfl rfl (by first | assumption | (simp; done)) (by first | assumption | (simp; done)) (by assumption)) | (apply vq_isOp .eql; first | exact vq_eqTxD rfl rfl (by assumption) (by assumption) (by assumption) | exact vq_eqTxE rfl rfl (by assumption) (by assumption) (by first | assumption | rfl) | exact vq_eqD rfl rfl (by first | assumption | (simp; done)) (by first | assumption | (simp; done)) (by assumption) | exact vq_eqE' rfl rfl (by first | assumption | (simp; done)) (by first | assumption | (simp; done)) (by assumption))) | (apply vq_isBin; first | exact vq_lt rfl rfl | exact vq_eq rfl rfl | exact vq_ne rfl rfl | (apply vq_isOp .add; exact vq_add rfl rfl (by first | exact wr_add (by omega) | exact wu_add (by omega) | exact wr_id (by omega) (by omega) | rfl)) | (apply vq_isOp .sub; exact vq_minus rfl rfl (by first | exact wr_sub (by omega) (by omega) | exact wu_sub (by omega) (by omega) | exact wr_id (by omega) (by omega) | rfl)) | exact vq_gt rfl rfl | exact vq_le rfl rfl | exact vq_ge rfl rfl | (apply vq_isOp .mul; exact vq_mul rfl rfl (by first | exact wr_mul (by omega) | exact wr_id (by omega) (by omega) | rfl)) | (apply vq_isOp .or; exact vq_or rfl rfl (by rfl)) | (apply vq_isOp .and; exact vq_and rfl rfl (by rfl)) | (apply vq_isOp .xor; exact vq_xor rfl rfl (by rfl)) | (apply vq_isOp .shl; exact vq_shl rfl rfl (by omega) (by rfl)) | (apply vq_isOp .shr; exact vq_shr rfl rfl (by omega) (by rfl)) | (apply vq_isOp .quo; exact vq_quo rfl rfl (by decide) (by first | exact q8_i64 (by omega) | exact q2_u8 (by omega) | exact q4_i64 (by omega) | assumption | rfl)) | (apply vq_isOp .rem; exact vq_rem rfl rfl (by decide) (by first | exact r8 | exact r2 | exact r4 | exact r64 | assumption | rfl)) | exact vq_eqNil rfl rfl | exact vq_eqBool rfl rfl | (apply vq_isOp .eql; exact vq_eqB rfl rfl (by first | assumption | (simp; done)) (by first | assumption | (simp; done))) | (apply vq_isOp .neq; first | exact vq_neBool rfl rfl | exact vq_neB rfl rfl (by first | assumption | (simp; done)) (by first | assumption | (simp; done)))))) ?_ | refine va_passGA 8 rfl rfl rfl rfl rfl rfl rfl rfl ?_)) <;> (refine va_takeA 9 rfl rfl rfl rfl ?_) <;> (refine va_done (by kernel_rfl) ?_))
    repeat' (first | (refine go1 ?_; intros) | ((first | refine vl_caseG rfl rfl rfl rfl ?_ ?_ | refine v_cond rfl ?_ ?_) <;> (intro hb; (try simp only [hq1, hq2, hq3, hq4, ne_eq, hq5, hq6, hq7, hq8] at hb); try (exfalso; omega))) | fail)
    all_goals first | (exfalso; omega) | skip
    exact ⟨rfl, (i + 1, (i : Int), lf), ⟨by dsimp only; omega, hinv⟩, by dsimp only; omega, by (repeat' (first | exact Sub.nil _ | refine Sub.cons rfl rfl ?_ | refine Sub.cons rfl ?_ ?_)), sei _ _ _⟩
  · rw [if_neg (fun e => hlt2 e.2)] at hinv
    repeat' (first | (refine go1 ?_; intros) | ((first | refine vl_caseG rfl rfl rfl rfl ?_ ?_ | refine v_cond rfl ?_ ?_) <;> (intro hb; (try simp only [hq1, hq2, hq3, hq4, ne_eq, hq5, hq6, hq7, hq8] at hb); try (exfalso; omega))) | fail)
    (refine v_draw0 [] (by kernel_rfl) ?_ <;> (refine va_takeA 0 rfl rfl rfl rfl ?_) <;> (refine va_takeA 1 rfl rfl rfl rfl ?_) <;> (refine va_takeA 2 rfl rfl rfl rfl ?_))
    first | refine va_one 3 (by kernel_rfl) rfl rfl (vo_call rfl rfl ?_) | refine va_one 3 (by kernel_rfl) rfl rfl (vo_callV rfl rfl rfl ?_)
    rw [hxc]
    refine vc_mono (rFrom_vc w0 _ x hx) ?_
    rintro v L' ⟨rfl, rfl⟩
    rw [← hxc, show sha (tagB 3 [x.pub]) = fromT x from rfl]
    refine ⟨.inr (SE.ent (by repeat' (first | exact SE.refl _ | refine SE.cons _ ?_ | refine SE.trans (se_drop _ _) ?_)) _), ?_⟩
    ((refine va_take 4 rfl rfl rfl rfl (by kernel_rfl) (fun _ _ _ _ h => h) (SE.ent (by repeat' (first | exact SE.refl _ | refine SE.cons _ ?_ | refine SE.trans (se_drop _ _) ?_)) _) (by (first | (apply vq_isBin; first | (apply vq_isOp .neq; first | exact vq_neTxD rfl rfl (by assumption) (by assumption) (by assumption) | exact vq_neD rfl rfl (by first | assumption | (simp; done)) (by first | assumption | (simp; done)) (by assumption) | exact vq_neE' rfl rfl (by first | assumption | (simp; done)) (by first | assumption | (simp; done)) (by assumption)) | (apply vq_isOp .eql; first | exact vq_eqTxD rfl rfl (by assumption) (by assumption) (by assumption) | exact vq_eqTxE rfl rfl (by assumption) (by assumption) (by first | assumption | rfl) | exact vq_eqD rfl rfl (by first | assumption | (simp; done)) (by first | assumption | (simp; done)) (by assumption) | exact vq_eqE' rfl rfl (by first | assumption | (simp; done)) (by first | assumption | (simp; done)) (by assumption))) | (apply vq_isBin; first | exact vq_lt rfl rfl | exact vq_eq rfl rfl | exact vq_ne rfl rfl | (apply vq_isOp .add; exact vq_add rfl rfl (by first | exact wr_add (by omega) | exact wu_add (by omega) | exact wr_id (by omega) (by omega) | rfl)) | (apply vq_isOp .sub; exact vq_minus rfl rfl (by first | exact wr_sub (by omega) (by omega) | exact wu_sub (by omega) (by omega) | exact wr_id (by omega) (by omega) | rfl)) | exact vq_gt rfl rfl | exact vq_le rfl rfl | exact vq_ge rfl rfl | (apply vq_isOp .mul; exact vq_mul rfl rfl (by first | exact wr_mul (by omega) | exact wr_id (by omega) (by omega) | rfl)) | (apply vq_isOp .or; exact vq_or rfl rfl (by rfl)) | (apply vq_isOp .and; exact vq_and rfl rfl (by rfl)) | (apply vq_isOp .xor; exact vq_xor rfl rfl (by rfl)) | (apply vq_isOp .shl; exact vq_shl rfl rfl (by omega) (by rfl)) | (apply vq_isOp .shr; exact vq_shr rfl rfl (by omega) (by rfl)) | (apply vq_isOp .quo; exact vq_quo rfl rfl (by decide) (by first | exact q8_i64 (by omega) | exact q2_u8 (by omega) | exact q4_i64 (by omega) | assumption | rfl)) | (apply vq_isOp .rem; exact vq_rem rfl rfl (by decide) (by first | exact r8 | exact r2 | exact r4 | exact r64 | assumption | rfl)) | exact vq_eqNil rfl rfl | exact vq_eqBool rfl rfl | (apply vq_isOp .eql; exact vq_eqB rfl rfl (by first | assumption | (simp; done)) (by first | assumption | (simp; done))) | (apply vq_isOp .neq; first | exact vq_neBool rfl rfl | exact vq_neB rfl rfl (by first | assumption | (simp; done)) (by first | assumption | (simp; done)))))) ?_) <;> (refine va_takeA 5 rfl rfl rfl rfl ?_) <;> (first | refine va_takeGA 6 rfl rfl rfl rfl rfl rfl rfl rfl ?_ | refine va_passGA 6 rfl rfl rfl rfl rfl rfl rfl rfl ?_ | (refine va_caseG 6 rfl rfl rfl rfl rfl ?_ ?_ <;> (intro hb; (try simp only [hq1, hq2, hq3, hq4, ne_eq, hq5, hq6, hq7, hq8] at hb); try (exfalso; omega)) <;> first | refine va_takeGA 6 rfl rfl rfl rfl rfl rfl rfl rfl ?_ | refine va_passGA 6 rfl rfl rfl rfl rfl rfl rfl rfl ?_)) <;> (first | refine va_takeGA 7 rfl rfl rfl rfl rfl rfl rfl rfl ?_ | refine va_passGA 7 rfl rfl rfl rfl rfl rfl rfl rfl ?_ | (refine va_caseG 7 rfl rfl rfl rfl rfl ?_ ?_ <;> (intro hb; (try simp only [hq1, hq2, hq3, hq4, ne_eq, hq5, hq6, hq7, hq8] at hb); try (exfalso; omega)) <;> first | refine va_takeGA 7 rfl rfl rfl rfl rfl rfl rfl rfl ?_ | refine va_passGA 7 rfl rfl rfl rfl rfl rfl rfl rfl ?_)) <;> (first | refine va_takeG 8 rfl rfl rfl rfl rfl rfl rfl rfl (by kernel_rfl) (fun _ _ _ _ h => h) (SE.ent (by repeat' (first | exact SE.refl _ | refine SE.cons _ ?_ | refine SE.trans (se_drop _ _) ?_)) _) (by (first | (apply vq_isBin; first | (apply vq_isOp .neq; first | exact vq_neTxD rfl rfl (by assumption) (by assumption) (by assumption) | exact vq_neD rfl rfl (by first | assumption | (simp; done)) (by first | assumption | (simp; done)) (by assumption) | exact vq_neE' rfl rfl (by first | assumption | (simp; done)) (by first | assumption | (simp; done)) (by assumption)) | (apply vq_isOp .eql; first | exact vq_eqTxD rfl rfl (by assumption) (by assumption) (by assumption) | exact vq_eqTxE rfl rfl (by assumption) (by assumption) (by first | assumption | rfl) | exact vq_eqD rfl rfl (by first | assumption | (simp; done)) (by first | assumption | (simp; done)) (by assumption) | exact vq_eqE' rfl rfl (by first | assumption | (simp; done)) (by first | assumption | (simp; done)) (by assumption))) | (apply vq_isBin; first | exact vq_lt rfl rfl | exact vq_eq rfl rfl | exact vq_ne rfl rfl | (apply vq_isOp .add; exact vq_add rfl rfl (by first | exact wr_add (by omega) | exact wu_add (by omega) | exact wr_id (by omega) (by omega) | rfl)) | (apply vq_isOp .sub; exact vq_minus rfl rfl (by first | exact wr_sub (by omega) (by omega) | exact wu_sub (by omega) (by omega) | exact wr_id (by omega) (by omega) | rfl)) | exact vq_gt rfl rfl | exact vq_le rfl rfl | exact vq_ge rfl rfl | (apply vq_isOp .mul; exact vq_mul rfl rfl (by first | exact wr_mul (by omega) | exact wr_id (by omega) (by omega) | rfl)) | (apply vq_isOp .or; exact vq_or rfl rfl (by rfl)) | (apply vq_isOp .and; exact vq_and rfl rfl (by rfl)) | (apply vq_isOp .xor; exact vq_xor rfl rfl (by rfl)) | (apply vq_isOp .shl; exact vq_shl rfl rfl (by omega) (by rfl)) | (apply vq_isOp .shr; exact vq_shr rfl rfl (by omega) (by rfl)) | (apply vq_isOp .quo; exact vq_quo rfl rfl (by decide) (by first | exact q8_i64 (by omega) | exact q2_u8 (by omega) | exact q4_i64 (by omega) | assumption | rfl)) | (apply vq_isOp .rem; exact vq_rem rfl rfl (by decide) (by first | exact r8 | exact r2 | exact r4 | exact r64 | assumption | rfl)) | exact vq_eqNil rfl rfl | exact vq_eqBool rfl rfl | (apply vq_isOp .eql; exact vq_eqB rfl rfl (by first | assumption | (simp; done)) (by first | assumption | (simp; done))) | (apply vq_isOp .neq; first | exact vq_neBool rfl rfl | exact vq_neB rfl rfl (by first | assumption | (simp; done)) (by first | assumption | (simp; done)))))) ?_ | refine va_passGA 8 rfl rfl rfl rfl rfl rfl rfl rfl ?_ | (refine va_caseG 8 rfl rfl rfl rfl rfl ?_ ?_ <;> (intro hb; (try simp only [hq1, hq2, hq3, hq4, ne_eq, hq5, hq6, hq7, hq8] at hb); try (exfalso; omega)) <;> first | refine va_takeG 8 rfl rfl rfl rfl rfl rfl rfl rfl (by kernel_rfl) (fun _ _ _ _ h => h) (SE.ent (by repeat' (first | exact SE.refl _ | refine SE.cons _ ?_ | refine SE.trans (se_drop _ _) ?_)) _) (by (first | (apply vq_isBin; first | (apply vq_isOp .neq; first | exact vq_neTxD rfl rfl (by assumption) (by assumption) (by assumption) | exact vq_neD rfl rfl (by first | assumption | (simp; done)) (by first | assumption | (simp; done)) (by assumption) | exact vq_neE' rfl rfl (by first | assumption | (simp; done)) (by first | assumption | (simp; done)) (by assumption)) | (apply vq_isOp .eql; first | exact vq_eqTxD rfl rfl (by assumption) (by assumption) (by assumption) | exact vq_eqTxE rfl rfl (by assumption) (by assumption) (by first | assumption | rfl) | exact vq_eqD rfl rfl (by first | assumption | (simp; done)) (by first | assumption | (simp; done)) (by assumption) | exact vq_eqE' rfl rfl (by first | assumption | (simp; done)) (by first | assumption | (simp; done)) (by assumption))) | (apply vq_isBin; first | exact vq_lt rfl rfl | exact vq_eq rfl rfl | exact vq_ne rfl rfl | (apply vq_isOp .add; exact vq_add rfl rfl (by first | exact wr_add (by omega) | exact wu_add (by omega) | exact wr_id (by omega) (by omega) | rfl)) | (apply vq_isOp .sub; exact vq_minus rfl rfl (by first | exact wr_sub (by omega) (by omega) | exact wu_sub (by omega) (by omega) | exact wr_id (by omega) (by omega) | rfl)) | exact vq_gt rfl rfl | exact vq_le rfl rfl | exact vq_ge rfl rfl | (apply vq_isOp .mul; exact vq_mul rfl rfl (by first | exact wr_mul (by omega) | exact wr_id (by omega) (by omega) | rfl)) | (apply vq_isOp .or; exact vq_or rfl rfl (by rfl)) | (apply vq_isOp .and; exact vq_and rfl rfl (by rfl)) | (apply vq_isOp .xor; exact vq_xor rfl rfl (by rfl)) | (apply vq_isOp .shl; exact vq_shl rfl rfl (by omega) (by rfl)) | (apply vq_isOp .shr; exact vq_shr rfl rfl (by omega) (by rfl)) | (apply vq_isOp .quo; exact vq_quo rfl rfl (by decide) (by first | exact q8_i64 (by omega) | exact q2_u8 (by omega) | exact q4_i64 (by omega) | assumption | rfl)) | (apply vq_isOp .rem; exact vq_rem rfl rfl (by decide) (by first | exact r8 | exact r2 | exact r4 | exact r64 | assumption | rfl)) | exact vq_eqNil rfl rfl | exact vq_eqBool rfl rfl | (apply vq_isOp .eql; exact vq_eqB rfl rfl (by first | assumption | (simp; done)) (by first | assumption | (simp; done))) | (apply vq_isOp .neq; first | exact vq_neBool rfl rfl | exact vq_neB rfl rfl (by first | assumption | (simp; done)) (by first | assumption | (simp; done)))))) ?_ | refine va_passGA 8 rfl rfl rfl rfl rfl rfl rfl rfl ?_)) <;> (refine va_takeA 9 rfl rfl rfl rfl ?_) <;> (refine va_done (by kernel_rfl) ?_))
    repeat' (first | (refine go1 ?_; intros) | ((first | refine vl_caseG rfl rfl rfl rfl ?_ ?_ | refine v_cond rfl ?_ ?_) <;> (intro hb; (try simp only [hq1, hq2, hq3, hq4, ne_eq, hq5, hq6, hq7, hq8] at hb); try (exfalso; omega))) | fail)
    all_goals first | (exfalso; omega) | skip
    exact ⟨rfl, (i + 1, w, least), ⟨by dsimp only; omega, hinv⟩, by dsimp only; omega, by (repeat' (first | exact Sub.nil _ | refine Sub.cons rfl rfl ?_ | refine Sub.cons rfl ?_ ?_)), sei _ _ _⟩
set_option maxRecDepth 100000 in
set_option maxHeartbeats 8000000 in
theorem rput20_vc (w0 : World) (L : List Asn) (a : Option Addr) (c : Nat) (ls : List Ln) (cap : Int) (nonce : Nat) (x : Tx) {n : Nat} (hn : n = ls.length) (h : LsOk ls) (hmc : MayC (lls ls)) (h9 : ls.length ≤ 800000) (hx : x.ok) (hnn : nonce < 18446744073709551616) [hr : RdC w0 L a (lnc ls)] [hv : RdLs w0 L ls] :
    VC Tryd.prog w0 48 [.agg #[.slice a n c], .int .i64 cap, .int .u64 nonce, .agg x.cells.toArray] L (RSub (submitC (lls ls) cap nonce x) L) := by
  subst hn
  have hlen := h.len
  have hs := hmc.srt
  have hxl := Tx.len hx
  have hx2 := Tx.f2 hx
  have hx4 := Tx.f4 hx
  have hxn := hx.nonce
  have hfl := fromT_len x
  haveI oxc : OC x.cells := oc_tx _
  have hcnt : cntL ls = cntC (lls ls) := cntL_lls ls
  refine vc_ent ?_
  refine vc_in rfl rfl ?_
  unfold submitC
  obtain ⟨xc, hxc⟩ : ∃ xc, xc = x.cells := ⟨_, rfl⟩
  rw [← hxc] at hxl hx2 hx4 oxc ⊢
  repeat' (first | (refine go1 ?_; intros) | ((first | refine vl_caseG rfl rfl rfl rfl ?_ ?_ | refine v_cond rfl ?_ ?_) <;> (intro hb; (try simp only [hq1, hq2, hq3, hq4, ne_eq, hq5, hq6, hq7, hq8] at hb); try (exfalso; omega))) | fail)
  refine vl_o rfl (vo_call rfl rfl ?_)
  rw [hxc]
  refine vc_mono (rCheck_vc w0 _ x hx) ?_
  rintro v L' ⟨rfl, rfl⟩
  rw [← hxc]
  by_cases hsg : x.sign = sgn x
  rotate_left
  · rw [if_neg hsg, if_neg hsg]
    repeat' (first | (refine go1 ?_; intros) | ((first | refine vl_caseG rfl rfl rfl rfl ?_ ?_ | refine v_cond rfl ?_ ?_) <;> (intro hb; (try simp only [hq1, hq2, hq3, hq4, ne_eq, hq5, hq6, hq7, hq8] at hb); try (exfalso; omega))) | fail)
    all_goals first | (exfalso; omega) | exact RSub.bad w0 L 110 (sei _ _ _)
  rw [if_pos hsg, if_pos hsg]
  by_cases hst : x.nonce < nonce
  · rw [if_pos hst]
    repeat' (first | (refine go1 ?_; intros) | ((first | refine vl_caseG rfl rfl rfl rfl ?_ ?_ | refine v_cond rfl ?_ ?_) <;> (intro hb; (try simp only [hq1, hq2, hq3, hq4, ne_eq, hq5, hq6, hq7, hq8] at hb); try (exfalso; omega))) | fail)
    all_goals first | (exfalso; omega) | exact RSub.bad w0 L 200 (sei _ _ _)
  rw [if_neg hst]
  by_cases hfar : 16 ≤ x.nonce - nonce ∨ x.nonce = 18446744073709551615
  · rw [if_pos hfar]
    repeat' (first | (refine go1 ?_; intros) | ((first | refine vl_caseG rfl rfl rfl rfl ?_ ?_ | refine v_cond rfl ?_ ?_) <;> (intro hb; (try simp only [hq1, hq2, hq3, hq4, ne_eq, hq5, hq6, hq7, hq8] at hb); try (exfalso; omega))) | fail)
    all_goals first | (exfalso; omega) | exact RSub.bad w0 L 201 (sei _ _ _)
  rw [if_neg hfar]
  repeat' (first | (refine go1 ?_; intros) | ((first | refine vl_caseG rfl rfl rfl rfl ?_ ?_ | refine v_cond rfl ?_ ?_) <;> (intro hb; (try simp only [hq1, hq2, hq3, hq4, ne_eq, hq5, hq6, hq7, hq8] at hb); try (exfalso; omega))) | fail)
  all_goals first | (exfalso; omega) | skip
  rename_i g4 g7 g8 _ _
  refine v_cut (Nat × {l : Ln // l.own = fromT x ∧ l.xs = lineC (lls ls) (fromT x) ∧ (l ∈ ls ∨ l.a = none ∧ l.xs = [])}) [1, 2, 4, 7, 8, 9, 10] rfl (fun z => [(11, .pointer (some ⟨z.1, 0, none⟩))]) (fun z => blk z.1 49 z.2.1.cells :: blk g8 24 [.slice none 0 0] :: blk g7 29 xc :: blk g4 24 [.slice a ls.length c] :: L) ?_ ?_
  · refine v_id ?_
    refine v_draw0 [] (by kernel_rfl) ?_
    refine va_takeA 0 rfl rfl rfl rfl ?_
    refine va_takeA 1 rfl rfl rfl rfl ?_
    refine va_two 2 4 (by kernel_rfl) rfl rfl rfl rfl ?_ ?_
    · first | refine vo_call rfl rfl ?_ | refine vo_callV rfl rfl rfl ?_
      rw [hxc]
      refine vc_mono (rFrom_vc w0 _ x hx) ?_
      rintro v L' ⟨rfl, rfl⟩
      rw [← hxc, show sha (tagB 3 [x.pub]) = fromT x from rfl]
      refine ⟨.inr (sei _ _ _), ?_⟩
      refine va_two 3 4 (by kernel_rfl) rfl rfl rfl rfl ?_ ?_
      · first | refine vo_call rfl rfl ?_ | refine vo_callV rfl rfl rfl ?_
        refine vc_mono (rline20_vc w0 _ a c ls (fromT x) rfl h hs hfl) ?_
        rintro v L' ⟨l, rfl, hlo, hlx, hlm, rfl⟩
        have hll : l.cells.length = 33 := Ln.len (by rw [hlo]; exact hfl)
        refine ⟨.inr (sei _ _ _), ?_⟩
        refine va_one 4 (by kernel_rfl) rfl rfl ?_
        (first | (refine vo_box rfl rfl rfl ?_; intro _) | (refine vo_alloc rfl ?_; intro _) | (refine vo_isStore ?_; first | (refine vo_isPt0 rfl ?_; refine vo_stWA rfl rfl ?_) | (refine vo_isPt rfl ?_; refine vo_stBA rfl rfl ?_) | (refine vo_stO rfl rfl (by rfl) (by first | rfl | assumption) (by first | assumption | (simp; done) | (simp; omega) | omega) rfl ?_; skip)) | (refine vo_isCall ?_; first | (refine vo_isApp ?_; first | (refine vo_append0A rfl rfl rfl ?_; intro _ _ _ _) | (refine vo_appendA rfl rfl rfl ?_; intro _ _ _ _)) | (refine vo_isCopy ?_; refine vo_copyB rfl rfl rfl (by assumption) (by assumption) (by assumption) (by assumption) ?_) | refine vo_yield rfl rfl rfl rfl rfl ?_ | refine vo_callV rfl rfl rfl (vc_in rfl rfl ?_)) | refine vo_convRow rfl rfl ?_ | (refine vo_isBs ?_; refine vo_buildSlice rfl rfl rfl (by decide) (by repeat' (first | exact trivial | rfl | assumption | refine ⟨?_, ?_⟩ | (simp; done) | (simp; omega))) (by decide) rfl ?_; intro _) | (refine vo_buildSlice0 rfl ?_; intro _) | fail)
        refine ⟨.inr (sei _ _ _), ?_⟩
        refine va_one 5 (by kernel_rfl) rfl rfl ?_
        (first | (refine vo_box rfl rfl rfl ?_; intro _) | (refine vo_alloc rfl ?_; intro _) | (refine vo_isStore ?_; first | (refine vo_isPt0 rfl ?_; refine vo_stWA rfl rfl ?_) | (refine vo_isPt rfl ?_; refine vo_stBA rfl rfl ?_) | (refine vo_stO rfl rfl (by rfl) (by first | rfl | assumption) (by first | assumption | (simp; done) | (simp; omega) | omega) rfl ?_; skip)) | (refine vo_isCall ?_; first | (refine vo_isApp ?_; first | (refine vo_append0A rfl rfl rfl ?_; intro _ _ _ _) | (refine vo_appendA rfl rfl rfl ?_; intro _ _ _ _)) | (refine vo_isCopy ?_; refine vo_copyB rfl rfl rfl (by assumption) (by assumption) (by assumption) (by assumption) ?_) | refine vo_yield rfl rfl rfl rfl rfl ?_ | refine vo_callV rfl rfl rfl (vc_in rfl rfl ?_)) | refine vo_convRow rfl rfl ?_ | (refine vo_isBs ?_; refine vo_buildSlice rfl rfl rfl (by decide) (by repeat' (first | exact trivial | rfl | assumption | refine ⟨?_, ?_⟩ | (simp; done) | (simp; omega))) (by decide) rfl ?_; intro _) | (refine vo_buildSlice0 rfl ?_; intro _) | fail)
        refine ⟨.inr (sei _ _ _), ?_⟩
        refine va_done (by kernel_rfl) ?_
        refine ⟨rfl, (_, ⟨l, hlo, hlx, hlm⟩), by (repeat' (first | exact Sub.nil _ | refine Sub.cons rfl rfl ?_ | refine Sub.cons rfl ?_ ?_)), ?_⟩
        dsimp only
        exact sei _ _ _
      · (first | (refine vo_box rfl rfl rfl ?_; intro _) | (refine vo_alloc rfl ?_; intro _) | (refine vo_isStore ?_; first | (refine vo_isPt0 rfl ?_; refine vo_stWA rfl rfl ?_) | (refine vo_isPt rfl ?_; refine vo_stBA rfl rfl ?_) | (refine vo_stO rfl rfl (by rfl) (by first | rfl | assumption) (by first | assumption | (simp; done) | (simp; omega) | omega) rfl ?_; skip)) | (refine vo_isCall ?_; first | (refine vo_isApp ?_; first | (refine vo_append0A rfl rfl rfl ?_; intro _ _ _ _) | (refine vo_appendA rfl rfl rfl ?_; intro _ _ _ _)) | (refine vo_isCopy ?_; refine vo_copyB rfl rfl rfl (by assumption) (by assumption) (by assumption) (by assumption) ?_) | refine vo_yield rfl rfl rfl rfl rfl ?_ | refine vo_callV rfl rfl rfl (vc_in rfl rfl ?_)) | refine vo_convRow rfl rfl ?_ | (refine vo_isBs ?_; refine vo_buildSlice rfl rfl rfl (by decide) (by repeat' (first | exact trivial | rfl | assumption | refine ⟨?_, ?_⟩ | (simp; done) | (simp; omega))) (by decide) rfl ?_; intro _) | (refine vo_buildSlice0 rfl ?_; intro _) | fail)
        refine ⟨.inr (sei _ _ _), ?_⟩
        refine va_one 3 (by kernel_rfl) rfl rfl ?_
        first | refine vo_call rfl rfl ?_ | refine vo_callV rfl rfl rfl ?_
        refine vc_mono (rline20_vc w0 _ a c ls (fromT x) rfl h hs hfl) ?_
        rintro v L' ⟨l, rfl, hlo, hlx, hlm, rfl⟩
        have hll : l.cells.length = 33 := Ln.len (by rw [hlo]; exact hfl)
        refine ⟨.inr (sei _ _ _), ?_⟩
        refine va_one 5 (by kernel_rfl) rfl rfl ?_
        (first | (refine vo_box rfl rfl rfl ?_; intro _) | (refine vo_alloc rfl ?_; intro _) | (refine vo_isStore ?_; first | (refine vo_isPt0 rfl ?_; refine vo_stWA rfl rfl ?_) | (refine vo_isPt rfl ?_; refine vo_stBA rfl rfl ?_) | (refine vo_stO rfl rfl (by rfl) (by first | rfl | assumption) (by first | assumption | (simp; done) | (simp; omega) | omega) rfl ?_; skip)) | (refine vo_isCall ?_; first | (refine vo_isApp ?_; first | (refine vo_append0A rfl rfl rfl ?_; intro _ _ _ _) | (refine vo_appendA rfl rfl rfl ?_; intro _ _ _ _)) | (refine vo_isCopy ?_; refine vo_copyB rfl rfl rfl (by assumption) (by assumption) (by assumption) (by assumption) ?_) | refine vo_yield rfl rfl rfl rfl rfl ?_ | refine vo_callV rfl rfl rfl (vc_in rfl rfl ?_)) | refine vo_convRow rfl rfl ?_ | (refine vo_isBs ?_; refine vo_buildSlice rfl rfl rfl (by decide) (by repeat' (first | exact trivial | rfl | assumption | refine ⟨?_, ?_⟩ | (simp; done) | (simp; omega))) (by decide) rfl ?_; intro _) | (refine vo_buildSlice0 rfl ?_; intro _) | fail)
        refine ⟨.inr (sei _ _ _), ?_⟩
        refine va_done (by kernel_rfl) ?_
        refine ⟨rfl, (_, ⟨l, hlo, hlx, hlm⟩), by (repeat' (first | exact Sub.nil _ | refine Sub.cons rfl rfl ?_ | refine Sub.cons rfl ?_ ?_)), ?_⟩
        dsimp only
        exact sei _ _ _
    · (first | (refine vo_box rfl rfl rfl ?_; intro _) | (refine vo_alloc rfl ?_; intro _) | (refine vo_isStore ?_; first | (refine vo_isPt0 rfl ?_; refine vo_stWA rfl rfl ?_) | (refine vo_isPt rfl ?_; refine vo_stBA rfl rfl ?_) | (refine vo_stO rfl rfl (by rfl) (by first | rfl | assumption) (by first | assumption | (simp; done) | (simp; omega) | omega) rfl ?_; skip)) | (refine vo_isCall ?_; first | (refine vo_isApp ?_; first | (refine vo_append0A rfl rfl rfl ?_; intro _ _ _ _) | (refine vo_appendA rfl rfl rfl ?_; intro _ _ _ _)) | (refine vo_isCopy ?_; refine vo_copyB rfl rfl rfl (by assumption) (by assumption) (by assumption) (by assumption) ?_) | refine vo_yield rfl rfl rfl rfl rfl ?_ | refine vo_callV rfl rfl rfl (vc_in rfl rfl ?_)) | refine vo_convRow rfl rfl ?_ | (refine vo_isBs ?_; refine vo_buildSlice rfl rfl rfl (by decide) (by repeat' (first | exact trivial | rfl | assumption | refine ⟨?_, ?_⟩ | (simp; done) | (simp; omega))) (by decide) rfl ?_; intro _) | (refine vo_buildSlice0 rfl ?_; intro _) | fail)
      refine ⟨.inr (sei _ _ _), ?_⟩
      refine va_one 2 (by kernel_rfl) rfl rfl ?_
      first | refine vo_call rfl rfl ?_ | refine vo_callV rfl rfl rfl ?_
      rw [hxc]
      refine vc_mono (rFrom_vc w0 _ x hx) ?_
      rintro v L' ⟨rfl, rfl⟩
      rw [← hxc, show sha (tagB 3 [x.pub]) = fromT x from rfl]
      refine ⟨.inr (sei _ _ _), ?_⟩
      refine va_one 3 (by kernel_rfl) rfl rfl ?_
      first | refine vo_call rfl rfl ?_ | refine vo_callV rfl rfl rfl ?_
      refine vc_mono (rline20_vc w0 _ a c ls (fromT x) rfl h hs hfl) ?_
      rintro v L' ⟨l, rfl, hlo, hlx, hlm, rfl⟩
      have hll : l.cells.length = 33 := Ln.len (by rw [hlo]; exact hfl)
      refine ⟨.inr (sei _ _ _), ?_⟩
      refine va_one 5 (by kernel_rfl) rfl rfl ?_
      (first | (refine vo_box rfl rfl rfl ?_; intro _) | (refine vo_alloc rfl ?_; intro _) | (refine vo_isStore ?_; first | (refine vo_isPt0 rfl ?_; refine vo_stWA rfl rfl ?_) | (refine vo_isPt rfl ?_; refine vo_stBA rfl rfl ?_) | (refine vo_stO rfl rfl (by rfl) (by first | rfl | assumption) (by first | assumption | (simp; done) | (simp; omega) | omega) rfl ?_; skip)) | (refine vo_isCall ?_; first | (refine vo_isApp ?_; first | (refine vo_append0A rfl rfl rfl ?_; intro _ _ _ _) | (refine vo_appendA rfl rfl rfl ?_; intro _ _ _ _)) | (refine vo_isCopy ?_; refine vo_copyB rfl rfl rfl (by assumption) (by assumption) (by assumption) (by assumption) ?_) | refine vo_yield rfl rfl rfl rfl rfl ?_ | refine vo_callV rfl rfl rfl (vc_in rfl rfl ?_)) | refine vo_convRow rfl rfl ?_ | (refine vo_isBs ?_; refine vo_buildSlice rfl rfl rfl (by decide) (by repeat' (first | exact trivial | rfl | assumption | refine ⟨?_, ?_⟩ | (simp; done) | (simp; omega))) (by decide) rfl ?_; intro _) | (refine vo_buildSlice0 rfl ?_; intro _) | fail)
      refine ⟨.inr (sei _ _ _), ?_⟩
      refine va_done (by kernel_rfl) ?_
      refine ⟨rfl, (_, ⟨l, hlo, hlx, hlm⟩), by (repeat' (first | exact Sub.nil _ | refine Sub.cons rfl rfl ?_ | refine Sub.cons rfl ?_ ?_)), ?_⟩
      dsimp only
      exact sei _ _ _
  rintro ⟨g11, l, hlo, hlx, hlm⟩
  dsimp only
  have hLok := lineC_ok h (fromT x)
  have hlok : l.ok := ⟨by rw [hlo]; exact hfl, by rw [hlx]; exact hLok⟩
  haveI hrl : ∀ M [RdLs w0 M ls], RdC w0 M l.a (txc l.xs) := fun M k => by
    rcases hlm with e | ⟨_, e⟩
    · exact k.out l e
    · rw [e]; exact rdC_nil _ _ _
  have hgood := hmc.line (fromT x)
  have hup := hgood.up
  rw [← hlx] at hgood hup hLok
  rw [← hlx]
  have hl1 := Ln.f1 hlok.own
  have hll := Ln.len hlok.own
  have hltl := hlok.ts.len
  have hg256 := hgood.len
  haveI olc : OC l.cells := oc_ln _
  obtain ⟨lc, hlc⟩ : ∃ lc, lc = l.cells := ⟨_, rfl⟩
  rw [← hlc] at hl1 hll olc ⊢
  repeat' (first | (refine go1 ?_; intros) | ((first | refine vl_caseG rfl rfl rfl rfl ?_ ?_ | refine v_cond rfl ?_ ?_) <;> (intro hb; (try simp only [hq1, hq2, hq3, hq4, ne_eq, hq5, hq6, hq7, hq8] at hb); try (exfalso; omega))) | fail)
  refine vl_o rfl (vo_call rfl rfl ?_)
  rw [hlc]
  refine vc_mono (rfind19_vc w0 _ l hlok x.nonce hxn) ?_
  rintro v L' ⟨m, rfl, hm, rfl⟩
  rw [← hlc]
  have hWok := hLok.with (by omega) hx
  have hwne := withT_ne l.xs x
  rcases find_ge hm hup with ⟨rfl, hat⟩ | ⟨k, hk, rfl, hkn, hat⟩
  · rw [hat]
    dsimp only
    by_cases hfu : 256 ≤ l.xs.length
    · rw [if_pos hfu]
      repeat' (first | (refine go1 ?_; intros) | ((first | refine vl_caseG rfl rfl rfl rfl ?_ ?_ | refine v_cond rfl ?_ ?_) <;> (intro hb; (try simp only [hq1, hq2, hq3, hq4, ne_eq, hq5, hq6, hq7, hq8] at hb); try (exfalso; omega))) | fail)
      all_goals first | (exfalso; omega) | exact RSub.bad w0 L 9 (sei _ _ _)
    rw [if_neg hfu]
    generalize hW : withT l.xs x = W at *
    obtain ⟨bG, dG, G, hG⟩ : ∃ bG dG G, (bG, dG, G) = ((none, 0, []) : Option Addr × Nat × List Tx) := ⟨_, _, _, rfl⟩
    obtain ⟨aM, cM, mm, hMM⟩ : ∃ aM cM mm, (aM, cM, mm) = (a, c, ls) := ⟨_, _, _, rfl⟩
    by_cases hcap : (cntC (lls ls) : Int) < cap
    · rw [if_pos hcap]
      repeat' (first | (refine go1 ?_; intros) | ((first | refine vl_caseG rfl rfl rfl rfl ?_ ?_ | refine v_cond rfl ?_ ?_) <;> (intro hb; (try simp only [hq1, hq2, hq3, hq4, ne_eq, hq5, hq6, hq7, hq8] at hb); try (exfalso; omega))) | fail)
      all_goals first | (exfalso; omega) | skip
      refine vl_o rfl (vo_call rfl rfl ?_)
      refine vc_mono (rcount20_vc w0 _ a c ls rfl h) ?_
      rintro v L' ⟨rfl, rfl⟩
      rw [hcnt]
      repeat' (first | (refine go1 ?_; intros) | ((first | refine vl_caseG rfl rfl rfl rfl ?_ ?_ | refine v_cond rfl ?_ ?_) <;> (intro hb; (try simp only [hq1, hq2, hq3, hq4, ne_eq, hq5, hq6, hq7, hq8] at hb); try (exfalso; omega))) | fail)
      all_goals first | (exfalso; omega) | skip
      refine v_ent (L' := blk g11 49 lc :: blk g8 24 [.slice none 0 0] :: blk g7 29 xc :: blk g4 24 [.slice a ls.length c] :: ownTs none 0 [] :: L) ((SE.cons _ (SE.cons _ (SE.cons _ (SE.cons _ (se_own_nil 29 99 L))))).ent w0) ?_
      refine v_drawX [4, 6] 1 (by kernel_rfl) ?_
      refine va_takeA 0 rfl rfl rfl rfl ?_
      refine va_takeA 1 rfl rfl rfl rfl ?_
      refine va_takeA 2 rfl rfl rfl rfl ?_
      refine va_takeP 5 rfl rfl rfl rfl (by kernel_rfl) (fun _ _ _ _ h => h) (.inl (sei _ _ _)) (by (first | exact vq_move rfl | exact vq_assign rfl | (apply vq_isBin; first | exact vq_lt rfl rfl | exact vq_eq rfl rfl | exact vq_ne rfl rfl | (apply vq_isOp .add; exact vq_add rfl rfl (by first | exact wr_add (by omega) | exact wu_add (by omega) | exact wr_id (by omega) (by omega) | rfl)) | (apply vq_isOp .sub; exact vq_minus rfl rfl (by first | exact wr_sub (by omega) (by omega) | exact wu_sub (by omega) (by omega) | exact wr_id (by omega) (by omega) | rfl)) | exact vq_gt rfl rfl | exact vq_le rfl rfl | exact vq_ge rfl rfl | (apply vq_isOp .mul; exact vq_mul rfl rfl (by first | exact wr_mul (by omega) | exact wr_id (by omega) (by omega) | rfl)) | (apply vq_isOp .or; exact vq_or rfl rfl (by rfl)) | (apply vq_isOp .and; exact vq_and rfl rfl (by rfl)) | (apply vq_isOp .xor; exact vq_xor rfl rfl (by rfl)) | (apply vq_isOp .shl; exact vq_shl rfl rfl (by omega) (by rfl)) | (apply vq_isOp .shr; exact vq_shr rfl rfl (by omega) (by rfl)) | (apply vq_isOp .quo; exact vq_quo rfl rfl (by decide) (by first | exact q8_i64 (by omega) | exact q2_u8 (by omega) | exact q4_i64 (by omega) | assumption | rfl)) | (apply vq_isOp .rem; exact vq_rem rfl rfl (by decide) (by first | exact r8 | exact r2 | exact r4 | exact r64 | assumption | rfl)) | exact vq_eqNil rfl rfl | exact vq_eqBool rfl rfl | (apply vq_isOp .eql; exact vq_eqB rfl rfl (by first | assumption | (simp; done)) (by first | assumption | (simp; done))) | (apply vq_isOp .neq; first | exact vq_neBool rfl rfl | exact vq_neB rfl rfl (by first | assumption | (simp; done)) (by first | assumption | (simp; done)))) | (apply vq_isLoad; first | (apply vq_isPt; exact rfl; first | (apply vq_isOne; exact vq_ldB rfl (by first | rfl | assumption)) | (apply vq_isPt0; exact rfl; apply vq_isAgg; exact vq_ldW rfl (by first | rfl | assumption | (simp; done) | (simp; assumption))) | (apply vq_isAgg; exact vq_ldP rfl (by assumption) (by first | assumption | (simp; done) | (simp; assumption)))) | (apply vq_isPtA; exact rfl; first | (apply vq_isOne; exact vq_ld1 rfl (by first | assumption | rfl)) | exact vq_ldA rfl (by assumption) (by first | assumption | (simp; done) | (simp; assumption))) | fail) | exact vq_lenSl rfl | (apply vq_isIx; first | (apply vq_ixSl; exact rfl; exact vq_index rfl rfl (by omega) (by omega) (by first | assumption | (simp; done) | (simp; omega) | (rw [bvs_length]; omega)) (by first | exact ix_1 | exact ix_s _ | rfl)) | (apply vq_ixPt; exact rfl; exact vq_indexArr rfl rfl (by omega) (by omega) (by first | exact ix_1 | exact ix_s _ | rfl)) | exact vq_indexArrA rfl rfl (by first | assumption | (simp; done) | (rw [bvs_length]; omega) | (simp; omega)) (by omega) (by omega) (by first | exact ix_1 | exact ix_s _ | rfl)) | exact vq_extract rfl rfl | exact vq_pickT rfl rfl | exact vq_pickF rfl rfl | exact vq_fieldAddr rfl (by rfl) rfl | exact vq_fieldAddrO rfl (by first | assumption | (simp; done) | (simp; omega)) (by rfl) rfl | exact vq_makeFunc rfl rfl | exact vq_nilCheck rfl | (apply vq_isConv; exact vq_conv rfl (by first | exact wi_id (by omega) | exact wu_id (by omega) | exact wr_id (by omega) (by omega) | rfl)) | (apply vq_isUn; first | exact vq_not rfl | exact vq_xorU rfl (by rfl) | exact vq_neg rfl (by rfl)) | (apply vq_isSlice; first | exact vq_slice rfl (by first | exact bnd_none | exact bnd_nat rfl) (by first | exact bnd_none | exact bnd_nat rfl) (by first | exact bnd_none | exact bnd_nat rfl) rfl (by omega) (by omega) (by omega) | exact vq_sliceArr rfl rfl | exact vq_sliceArrO rfl (by first | assumption | (simp; done) | (simp; omega)) rfl) | (apply vq_isBuild; first | exact vq_build0 | exact vq_buildArr0 | exact vq_build rfl rfl (by first | rfl | (simp [plOf]; done)) (by first | rfl | (simp; done)) | exact vq_buildP rfl (by first | (simp [okS, Value.cells]; done) | (simp [okS, Value.cells]; omega)) rfl) | fail)) ?_
      refine va_one 3 (by kernel_rfl) rfl rfl ?_
      first | refine vo_call rfl rfl ?_ | refine vo_callV rfl rfl rfl ?_
      rw [hlc, hxc]
      refine vc_mono (rwith_vc w0 _ l hlok hup (by omega) x hx) ?_
      rw [hW, ← hlc, ← hxc]
      rintro v L' ⟨a2, c2, rfl, rfl⟩
      refine ⟨.inr (sei _ _ _), ?_⟩
      refine va_one 4 (by kernel_rfl) rfl rfl ?_
      first | refine vo_call rfl rfl ?_ | refine vo_callV rfl rfl rfl ?_
      refine vc_mono (rwithS_vc w0 _ a c ls (Ln.mk l.own a2 c2 W) rfl h hmc ⟨hlok.own, hWok⟩ (by omega)) ?_
      rintro v L' ⟨a5, c5, m5, rfl, hm5, ho5, rfl⟩
      refine ⟨.inl (by kernel_rfl), ?_⟩
      refine va_one 6 (by kernel_rfl) rfl rfl ?_
      (first | (refine vo_box rfl rfl rfl ?_; intro _) | (refine vo_alloc rfl ?_; intro _) | (refine vo_isStore ?_; first | (refine vo_isPt0 rfl ?_; refine vo_stWA rfl rfl ?_) | (refine vo_isPt rfl ?_; refine vo_stBA rfl rfl ?_) | (refine vo_stO rfl rfl (by rfl) (by first | rfl | assumption) (by first | assumption | (simp; done) | (simp; omega) | omega) rfl ?_; skip)) | (refine vo_isCall ?_; first | (refine vo_isApp ?_; first | (refine vo_append0A rfl rfl rfl ?_; intro _ _ _ _) | (refine vo_appendA rfl rfl rfl ?_; intro _ _ _ _)) | (refine vo_isCopy ?_; refine vo_copyB rfl rfl rfl (by assumption) (by assumption) (by assumption) (by assumption) ?_) | refine vo_yield rfl rfl rfl rfl rfl ?_ | refine vo_callV rfl rfl rfl (vc_in rfl rfl ?_)) | refine vo_convRow rfl rfl ?_ | (refine vo_isBs ?_; refine vo_buildSlice rfl rfl rfl (by decide) (by repeat' (first | exact trivial | rfl | assumption | refine ⟨?_, ?_⟩ | (simp; done) | (simp; omega))) (by decide) rfl ?_; intro _) | (refine vo_buildSlice0 rfl ?_; intro _) | fail)
      refine ⟨.inl (by kernel_rfl), ?_⟩
      refine va_takePA 7 rfl rfl rfl rfl ?_
      refine va_takePA 8 rfl rfl rfl rfl ?_
      refine va_done (by kernel_rfl) ?_
      repeat' (first | (refine go1 ?_; intros) | ((first | refine vl_caseG rfl rfl rfl rfl ?_ ?_ | refine v_cond rfl ?_ ?_) <;> (intro hb; (try simp only [hq1, hq2, hq3, hq4, ne_eq, hq5, hq6, hq7, hq8] at hb); try (exfalso; omega))) | fail)
      refine ⟨ownLs a5 c5 m5 :: tsA m5 :: ownTs none 0 [] :: L, sei _ _ _, a5, c5, m5, none, 0, rfl, ?_, ho5, rfl⟩
      show lls m5 = setC (lls ls) (fromT x) W
      rw [hm5, ← hlo]
    rw [if_neg hcap]
    have hneL : ∀ l ∈ ls, 0 < l.xs.length := fun l hl => Nat.pos_of_ne_zero (fun e => hmc.ne l.pl (List.mem_map.2 ⟨l, hl, rfl⟩) (List.eq_nil_of_length_eq_zero e))
    repeat' (first | (refine go1 ?_; intros) | ((first | refine vl_caseG rfl rfl rfl rfl ?_ ?_ | refine v_cond rfl ?_ ?_) <;> (intro hb; (try simp only [hq1, hq2, hq3, hq4, ne_eq, hq5, hq6, hq7, hq8] at hb); try (exfalso; omega))) | fail)
    all_goals first | (exfalso; omega) | skip
    refine vl_o rfl (vo_call rfl rfl ?_)
    refine vc_mono (rcount20_vc w0 _ a c ls rfl h) ?_
    rintro v L' ⟨rfl, rfl⟩
    rw [hcnt]
    repeat' (first | (refine go1 ?_; intros) | ((first | refine vl_caseG rfl rfl rfl rfl ?_ ?_ | refine v_cond rfl ?_ ?_) <;> (intro hb; (try simp only [hq1, hq2, hq3, hq4, ne_eq, hq5, hq6, hq7, hq8] at hb); try (exfalso; omega))) | fail)
    all_goals first | (exfalso; omega) | skip
    refine vl_o rfl (vo_call rfl rfl ?_)
    rw [hxc]
    refine vc_mono (rworst20_vc w0 _ a c ls x rfl hx h hneL) ?_
    rintro v L' ⟨rfl, rfl⟩
    rw [← hxc]
    rcases worstC_is (cs := lls ls) (o := fromT x) (fee := x.fee) with e | ⟨k, hk, e, hkn⟩
    · rw [e]
      cases (lls ls)[(-1 : Int).toNat]?
      · dsimp only
        repeat' (first | (refine go1 ?_; intros) | ((first | refine vl_caseG rfl rfl rfl rfl ?_ ?_ | refine v_cond rfl ?_ ?_) <;> (intro hb; (try simp only [hq1, hq2, hq3, hq4, ne_eq, hq5, hq6, hq7, hq8] at hb); try (exfalso; omega))) | fail)
        all_goals first | (exfalso; omega) | exact RSub.bad w0 L 9 (sei _ _ _)
      · dsimp only
        rw [if_pos (by decide)]
        repeat' (first | (refine go1 ?_; intros) | ((first | refine vl_caseG rfl rfl rfl rfl ?_ ?_ | refine v_cond rfl ?_ ?_) <;> (intro hb; (try simp only [hq1, hq2, hq3, hq4, ne_eq, hq5, hq6, hq7, hq8] at hb); try (exfalso; omega))) | fail)
        all_goals first | (exfalso; omega) | exact RSub.bad w0 L 9 (sei _ _ _)
    have hk' : k < ls.length := by rwa [List.length_map] at hk
    rw [e, Int.toNat_natCast, List.getElem?_eq_getElem hk]
    dsimp only
    rw [if_neg (by omega), List.getElem_map]
    rw [List.getElem_map] at hkn
    have hkn : ls[k].own ≠ fromT x := hkn
    have hn0 := hneL _ (List.getElem_mem hk')
    have he := h.e k hk'
    have hpos := h.pos k hk'
    have hwo := h.at k hk'
    haveI := hv.at k hk'
    have hpl : ls[k].pl = (ls[k].own, ls[k].xs) := rfl
    rw [hpl]
    have hgw : GoodL ls[k].own ls[k].xs := hmc.good ls[k].pl (List.mem_map.2 ⟨_, List.getElem_mem hk', rfl⟩)
    generalize ls[k] = w at *
    obtain ⟨N, hN⟩ : ∃ N, N = w.xs.length - 1 := ⟨_, rfl⟩
    have hN1 : w.xs.length = N + 1 := by omega
    have hel := hwo.ts.el N (by omega)
    have hwtl := hwo.ts.len
    have hpe := hwo.ts.pos N (by omega)
    have hyo := hwo.ts.at N (by omega)
    have hdl : w.xs.drop (w.xs.length - 1) = [w.xs[N]'(by omega)] := by
      rw [← hN, List.drop_eq_getElem_cons (by omega), List.drop_of_length_le (by omega)]
    rw [hdl, ← hN]
    generalize w.xs[N] = y at *
    have hyl := Tx.len hyo
    haveI hyc : OC y.cells := oc_tx _
    have htl : (w.xs.take N).length = N := by rw [List.length_take]; omega
    have hwl := Ln.len hwo.own
    haveI hwcc : OC w.cells := oc_ln _
    obtain ⟨wwc, hwwc⟩ : ∃ wwc, wwc = w.cells := ⟨_, rfl⟩
    rw [← hwwc] at hwl hwcc he
    repeat' (first | (refine go1 ?_; intros) | ((first | refine vl_caseG rfl rfl rfl rfl ?_ ?_ | refine v_cond rfl ?_ ?_) <;> (intro hb; (try simp only [hq1, hq2, hq3, hq4, ne_eq, hq5, hq6, hq7, hq8] at hb); try (exfalso; omega))) | fail)
    all_goals first | (exfalso; omega) | skip
    refine vl_o rfl (vo_call rfl rfl ?_)
    rw [hwwc]
    refine vc_mono (rtwinL_vc w0 _ w hwo) ?_
    rintro v L' ⟨a3, c3, rfl, rfl⟩
    have h3o : (Ln.mk w.own a3 c3 w.xs).ok := ⟨hwo.own, hwo.ts⟩
    have h3l := Ln.len h3o.own
    have h31 := Ln.f1 h3o.own
    have h3set := Ln.setTs (l := Ln.mk w.own a3 c3 w.xs) (n := N) hwo.own a3 c3 (xs := w.xs.take N) htl.symm
    haveI h3c : OC (Ln.mk w.own a3 c3 w.xs).cells := oc_ln _
    obtain ⟨wc3, hwc3⟩ : ∃ wc3, wc3 = (Ln.mk w.own a3 c3 w.xs).cells := ⟨_, rfl⟩
    rw [← hwc3] at h3l h31 h3set h3c ⊢
    dsimp only at h31 h3set
    have hel2 : ((txc w.xs).drop ((w.xs.length - 1) * 99)).take 99 = y.cells := by rw [← hN]; exact hel
    refine vl_know (φ := w.xs.length ≤ c3) (fun w hs => (hs.ownLen 0 rfl).2.1) (fun hcapW => ?_)
    repeat' (first | (refine go1 ?_; intros) | ((first | refine vl_caseG rfl rfl rfl rfl ?_ ?_ | refine v_cond rfl ?_ ?_) <;> (intro hb; (try simp only [hq1, hq2, hq3, hq4, ne_eq, hq5, hq6, hq7, hq8] at hb); try (exfalso; omega))) | fail)
    all_goals first | (exfalso; omega) | skip
    rename_i g15 gq aG cG _ _
    rw [subA_0, Nat.sub_zero, Nat.sub_zero, ← hN, h3set]
    have hvo : (Ln.mk w.own a3 c3 (w.xs.take N)).ok := ⟨hwo.own, ⟨fun z hz => hwo.ts.ok z (List.mem_of_mem_take hz), by rw [htl]; omega⟩⟩
    have hvl := Ln.len hvo.own
    haveI hvc : OC (Ln.mk w.own a3 c3 (w.xs.take N)).cells := oc_ln _
    obtain ⟨vc, hvcs⟩ : ∃ vc, vc = (Ln.mk w.own a3 c3 (w.xs.take N)).cells := ⟨_, rfl⟩
    rw [← hvcs] at hvl hvc ⊢
    refine vl_ent (L' := ownTs a3 c3 (w.xs.take N) :: ownTs aG cG [y] :: blk g15 49 vc :: blk g11 49 lc :: blk g8 24 [.slice none 0 0] :: blk g7 29 xc :: blk g4 24 [.slice a ls.length c] :: L) ?_ ?_
    · refine (sei w0 _ (ownTs a3 c3 w.xs :: own 29 99 aG 1 cG (y.cells ++ []) :: blk g15 49 vc :: blk g11 49 lc :: blk g8 24 [.slice none 0 0] :: blk g7 29 xc :: blk g4 24 [.slice a ls.length c] :: L)).trans ?_
      have hgy : own 29 99 aG 1 cG (y.cells ++ []) = ownTs aG cG [y] := by
        unfold ownTs
        rw [flat_one, List.append_nil]
        rfl
      rw [hgy]
      refine (se_head _ (P' := ownTs a3 c3 (w.xs.take N)) (fun u F hF => ?_)).ent w0
      have := own_cut N c3 (by omega) (Nat.le_refl _) (by omega) u F hF
      unfold ownTs
      rw [htl]
      rwa [hwo.ts.wide.take] at this
    repeat' (first | (refine go1 ?_; intros) | ((first | refine vl_caseG rfl rfl rfl rfl ?_ ?_ | refine v_cond rfl ?_ ?_) <;> (intro hb; (try simp only [hq1, hq2, hq3, hq4, ne_eq, hq5, hq6, hq7, hq8] at hb); try (exfalso; omega))) | fail)
    refine vl_o rfl (vo_call rfl rfl ?_)
    rw [hvcs]
    refine vc_mono (rwithS_vc w0 _ a c ls (Ln.mk w.own a3 c3 (w.xs.take N)) rfl h hmc hvo (by omega)) ?_
    rintro v L' ⟨a6, c6, m6, rfl, hm6, ho6, rfl⟩
    have hm6 : lls m6 = setC (lls ls) w.own (w.xs.take N) := hm6
    have hmc6 : MayC (lls m6) := by
      rw [hm6]
      exact hmc.set h.k2 hwo.own (hgw.take N)
    have hml6 : m6.length ≤ 900000 := by
      have e1 := congrArg List.length hm6
      have e2 := setC_len hs h.k2 hwo.own (w.xs.take N)
      rw [List.length_map] at e1 e2
      omega
    repeat' (first | (refine go1 ?_; intros) | ((first | refine vl_caseG rfl rfl rfl rfl ?_ ?_ | refine v_cond rfl ?_ ?_) <;> (intro hb; (try simp only [hq1, hq2, hq3, hq4, ne_eq, hq5, hq6, hq7, hq8] at hb); try (exfalso; omega))) | fail)
    refine v_ent (L' := blk g11 49 lc :: blk g8 24 [.slice none 0 0] :: blk g7 29 xc :: blk g4 24 [.slice a6 m6.length c6] :: ownTs aG cG [y] :: ownLs a6 c6 m6 :: tsA m6 :: L) (sei w0 _ _) ?_
    refine v_drawX [4, 6] 1 (by kernel_rfl) ?_
    refine va_takeA 0 rfl rfl rfl rfl ?_
    refine va_takeA 1 rfl rfl rfl rfl ?_
    refine va_takeA 2 rfl rfl rfl rfl ?_
    refine va_takeP 5 rfl rfl rfl rfl (by kernel_rfl) (fun _ _ _ _ h => h) (.inl (sei _ _ _)) (by (first | exact vq_move rfl | exact vq_assign rfl | (apply vq_isBin; first | exact vq_lt rfl rfl | exact vq_eq rfl rfl | exact vq_ne rfl rfl | (apply vq_isOp .add; exact vq_add rfl rfl (by first | exact wr_add (by omega) | exact wu_add (by omega) | exact wr_id (by omega) (by omega) | rfl)) | (apply vq_isOp .sub; exact vq_minus rfl rfl (by first | exact wr_sub (by omega) (by omega) | exact wu_sub (by omega) (by omega) | exact wr_id (by omega) (by omega) | rfl)) | exact vq_gt rfl rfl | exact vq_le rfl rfl | exact vq_ge rfl rfl | (apply vq_isOp .mul; exact vq_mul rfl rfl (by first | exact wr_mul (by omega) | exact wr_id (by omega) (by omega) | rfl)) | (apply vq_isOp .or; exact vq_or rfl rfl (by rfl)) | (apply vq_isOp .and; exact vq_and rfl rfl (by rfl)) | (apply vq_isOp .xor; exact vq_xor rfl rfl (by rfl)) | (apply vq_isOp .shl; exact vq_shl rfl rfl (by omega) (by rfl)) | (apply vq_isOp .shr; exact vq_shr rfl rfl (by omega) (by rfl)) | (apply vq_isOp .quo; exact vq_quo rfl rfl (by decide) (by first | exact q8_i64 (by omega) | exact q2_u8 (by omega) | exact q4_i64 (by omega) | assumption | rfl)) | (apply vq_isOp .rem; exact vq_rem rfl rfl (by decide) (by first | exact r8 | exact r2 | exact r4 | exact r64 | assumption | rfl)) | exact vq_eqNil rfl rfl | exact vq_eqBool rfl rfl | (apply vq_isOp .eql; exact vq_eqB rfl rfl (by first | assumption | (simp; done)) (by first | assumption | (simp; done))) | (apply vq_isOp .neq; first | exact vq_neBool rfl rfl | exact vq_neB rfl rfl (by first | assumption | (simp; done)) (by first | assumption | (simp; done)))) | (apply vq_isLoad; first | (apply vq_isPt; exact rfl; first | (apply vq_isOne; exact vq_ldB rfl (by first | rfl | assumption)) | (apply vq_isPt0; exact rfl; apply vq_isAgg; exact vq_ldW rfl (by first | rfl | assumption | (simp; done) | (simp; assumption))) | (apply vq_isAgg; exact vq_ldP rfl (by assumption) (by first | assumption | (simp; done) | (simp; assumption)))) | (apply vq_isPtA; exact rfl; first | (apply vq_isOne; exact vq_ld1 rfl (by first | assumption | rfl)) | exact vq_ldA rfl (by assumption) (by first | assumption | (simp; done) | (simp; assumption))) | fail) | exact vq_lenSl rfl | (apply vq_isIx; first | (apply vq_ixSl; exact rfl; exact vq_index rfl rfl (by omega) (by omega) (by first | assumption | (simp; done) | (simp; omega) | (rw [bvs_length]; omega)) (by first | exact ix_1 | exact ix_s _ | rfl)) | (apply vq_ixPt; exact rfl; exact vq_indexArr rfl rfl (by omega) (by omega) (by first | exact ix_1 | exact ix_s _ | rfl)) | exact vq_indexArrA rfl rfl (by first | assumption | (simp; done) | (rw [bvs_length]; omega) | (simp; omega)) (by omega) (by omega) (by first | exact ix_1 | exact ix_s _ | rfl)) | exact vq_extract rfl rfl | exact vq_pickT rfl rfl | exact vq_pickF rfl rfl | exact vq_fieldAddr rfl (by rfl) rfl | exact vq_fieldAddrO rfl (by first | assumption | (simp; done) | (simp; omega)) (by rfl) rfl | exact vq_makeFunc rfl rfl | exact vq_nilCheck rfl | (apply vq_isConv; exact vq_conv rfl (by first | exact wi_id (by omega) | exact wu_id (by omega) | exact wr_id (by omega) (by omega) | rfl)) | (apply vq_isUn; first | exact vq_not rfl | exact vq_xorU rfl (by rfl) | exact vq_neg rfl (by rfl)) | (apply vq_isSlice; first | exact vq_slice rfl (by first | exact bnd_none | exact bnd_nat rfl) (by first | exact bnd_none | exact bnd_nat rfl) (by first | exact bnd_none | exact bnd_nat rfl) rfl (by omega) (by omega) (by omega) | exact vq_sliceArr rfl rfl | exact vq_sliceArrO rfl (by first | assumption | (simp; done) | (simp; omega)) rfl) | (apply vq_isBuild; first | exact vq_build0 | exact vq_buildArr0 | exact vq_build rfl rfl (by first | rfl | (simp [plOf]; done)) (by first | rfl | (simp; done)) | exact vq_buildP rfl (by first | (simp [okS, Value.cells]; done) | (simp [okS, Value.cells]; omega)) rfl) | fail)) ?_
    refine va_one 3 (by kernel_rfl) rfl rfl ?_
    first | refine vo_call rfl rfl ?_ | refine vo_callV rfl rfl rfl ?_
    rw [hlc, hxc]
    refine vc_mono (rwith_vc w0 _ l hlok hup (by omega) x hx) ?_
    rw [hW, ← hlc, ← hxc]
    rintro v L' ⟨a2, c2, rfl, rfl⟩
    refine ⟨.inr (sei _ _ _), ?_⟩
    refine va_one 4 (by kernel_rfl) rfl rfl ?_
    first | refine vo_call rfl rfl ?_ | refine vo_callV rfl rfl rfl ?_
    refine vc_mono (rwithS_vc w0 _ a6 c6 m6 (Ln.mk l.own a2 c2 W) rfl ho6 hmc6 ⟨hlok.own, hWok⟩ hml6) ?_
    rintro v L' ⟨a5, c5, m5, rfl, hm5, ho5, rfl⟩
    refine ⟨.inl (by kernel_rfl), ?_⟩
    refine va_one 6 (by kernel_rfl) rfl rfl ?_
    (first | (refine vo_box rfl rfl rfl ?_; intro _) | (refine vo_alloc rfl ?_; intro _) | (refine vo_isStore ?_; first | (refine vo_isPt0 rfl ?_; refine vo_stWA rfl rfl ?_) | (refine vo_isPt rfl ?_; refine vo_stBA rfl rfl ?_) | (refine vo_stO rfl rfl (by rfl) (by first | rfl | assumption) (by first | assumption | (simp; done) | (simp; omega) | omega) rfl ?_; skip)) | (refine vo_isCall ?_; first | (refine vo_isApp ?_; first | (refine vo_append0A rfl rfl rfl ?_; intro _ _ _ _) | (refine vo_appendA rfl rfl rfl ?_; intro _ _ _ _)) | (refine vo_isCopy ?_; refine vo_copyB rfl rfl rfl (by assumption) (by assumption) (by assumption) (by assumption) ?_) | refine vo_yield rfl rfl rfl rfl rfl ?_ | refine vo_callV rfl rfl rfl (vc_in rfl rfl ?_)) | refine vo_convRow rfl rfl ?_ | (refine vo_isBs ?_; refine vo_buildSlice rfl rfl rfl (by decide) (by repeat' (first | exact trivial | rfl | assumption | refine ⟨?_, ?_⟩ | (simp; done) | (simp; omega))) (by decide) rfl ?_; intro _) | (refine vo_buildSlice0 rfl ?_; intro _) | fail)
    refine ⟨.inl (by kernel_rfl), ?_⟩
    refine va_takePA 7 rfl rfl rfl rfl ?_
    refine va_takePA 8 rfl rfl rfl rfl ?_
    refine va_done (by kernel_rfl) ?_
    repeat' (first | (refine go1 ?_; intros) | ((first | refine vl_caseG rfl rfl rfl rfl ?_ ?_ | refine v_cond rfl ?_ ?_) <;> (intro hb; (try simp only [hq1, hq2, hq3, hq4, ne_eq, hq5, hq6, hq7, hq8] at hb); try (exfalso; omega))) | fail)
    refine ⟨ownLs a5 c5 m5 :: tsA m5 :: ownTs aG cG [y] :: L, sei _ _ _, a5, c5, m5, aG, cG, rfl, ?_, ho5, rfl⟩
    show lls m5 = setC (setC (lls ls) w.own (w.xs.take N)) (fromT x) W
    rw [hm5, ← hlo, hm6]
  · rw [hat]
    dsimp only
    have e4 := hLok.e4 k hk
    have el := hLok.el k hk
    have hpk := hLok.pos k hk
    have hyo := hLok.at k hk
    generalize l.xs[k] = y at *
    have hyl := Tx.len hyo
    haveI oyc : OC y.cells := oc_tx _
    by_cases hf : x.fee ≤ y.fee
    · rw [if_pos hf]
      repeat' (first | (refine go1 ?_; intros) | ((first | refine vl_caseG rfl rfl rfl rfl ?_ ?_ | refine v_cond rfl ?_ ?_) <;> (intro hb; (try simp only [hq1, hq2, hq3, hq4, ne_eq, hq5, hq6, hq7, hq8] at hb); try (exfalso; omega))) | fail)
      all_goals first | (exfalso; omega) | skip
      (refine v_draw0 [] (by kernel_rfl) ?_ <;> (refine va_takeA 0 rfl rfl rfl rfl ?_) <;> (refine va_takeA 1 rfl rfl rfl rfl ?_) <;> (refine va_takeA 2 rfl rfl rfl rfl ?_) <;> (refine va_takeA 3 rfl rfl rfl rfl ?_) <;> (refine va_takeA 4 rfl rfl rfl rfl ?_) <;> (refine va_takeA 5 rfl rfl rfl rfl ?_) <;> (refine va_takeA 6 rfl rfl rfl rfl ?_) <;> (refine va_takeA 7 rfl rfl rfl rfl ?_) <;> (refine va_takeA 8 rfl rfl rfl rfl ?_) <;> (refine va_done (by kernel_rfl) ?_))
      repeat' (first | (refine go1 ?_; intros) | ((first | refine vl_caseG rfl rfl rfl rfl ?_ ?_ | refine v_cond rfl ?_ ?_) <;> (intro hb; (try simp only [hq1, hq2, hq3, hq4, ne_eq, hq5, hq6, hq7, hq8] at hb); try (exfalso; omega))) | fail)
      all_goals first | (exfalso; omega) | exact RSub.bad w0 L 190 (sei _ _ _)
    rw [if_neg hf]
    generalize hW : withT l.xs x = W at *
    repeat' (first | (refine go1 ?_; intros) | ((first | refine vl_caseG rfl rfl rfl rfl ?_ ?_ | refine v_cond rfl ?_ ?_) <;> (intro hb; (try simp only [hq1, hq2, hq3, hq4, ne_eq, hq5, hq6, hq7, hq8] at hb); try (exfalso; omega))) | fail)
    all_goals first | (exfalso; omega) | skip
    (refine v_draw0 [] (by kernel_rfl) ?_ <;> (refine va_takeA 0 rfl rfl rfl rfl ?_) <;> (refine va_takeA 1 rfl rfl rfl rfl ?_) <;> (refine va_takeA 2 rfl rfl rfl rfl ?_) <;> (refine va_takeA 3 rfl rfl rfl rfl ?_) <;> (refine va_takeA 4 rfl rfl rfl rfl ?_) <;> (refine va_takeA 5 rfl rfl rfl rfl ?_) <;> (refine va_takeA 6 rfl rfl rfl rfl ?_) <;> (refine va_takeA 7 rfl rfl rfl rfl ?_) <;> (refine va_takeA 8 rfl rfl rfl rfl ?_) <;> (refine va_done (by kernel_rfl) ?_))
    repeat' (first | (refine go1 ?_; intros) | ((first | refine vl_caseG rfl rfl rfl rfl ?_ ?_ | refine v_cond rfl ?_ ?_) <;> (intro hb; (try simp only [hq1, hq2, hq3, hq4, ne_eq, hq5, hq6, hq7, hq8] at hb); try (exfalso; omega))) | fail)
    all_goals first | (exfalso; omega) | skip
    refine v_drawX [] 1 (by kernel_rfl) ?_
    refine va_takeA 0 rfl rfl rfl rfl ?_
    refine va_takeA 1 rfl rfl rfl rfl ?_
    refine va_takeA 2 rfl rfl rfl rfl ?_
    refine va_takeA 5 rfl rfl rfl rfl ?_
    refine va_takeA 6 rfl rfl rfl rfl ?_
    refine va_takeA 7 rfl rfl rfl rfl ?_
    refine va_takeA 8 rfl rfl rfl rfl ?_
    refine va_takeA 9 rfl rfl rfl rfl ?_
    refine va_two 3 10 (by kernel_rfl) rfl rfl rfl rfl ?_ ?_
    · first | refine vo_call rfl rfl ?_ | refine vo_callV rfl rfl rfl ?_
      rw [hlc, hxc]
      refine vc_mono (rwith_vc w0 _ l hlok hup (by omega) x hx) ?_
      rw [hW, ← hlc, ← hxc]
      rintro v L' ⟨a2, c2, rfl, rfl⟩
      refine ⟨.inr (sei _ _ _), ?_⟩
      refine va_two 4 10 (by kernel_rfl) rfl rfl rfl rfl ?_ ?_
      · first | refine vo_call rfl rfl ?_ | refine vo_callV rfl rfl rfl ?_
        refine vc_mono (rwithS_vc w0 _ a c ls (Ln.mk l.own a2 c2 W) rfl h hmc ⟨hlok.own, hWok⟩ (by omega)) ?_
        rintro v L' ⟨a5, c5, m5, rfl, hm5, ho5, rfl⟩
        refine ⟨.inr (sei _ _ _), ?_⟩
        refine va_two 10 11 (by kernel_rfl) rfl rfl rfl rfl ?_ ?_
        · (first | (refine vo_box rfl rfl rfl ?_; intro _) | (refine vo_alloc rfl ?_; intro _) | (refine vo_isStore ?_; first | (refine vo_isPt0 rfl ?_; refine vo_stWA rfl rfl ?_) | (refine vo_isPt rfl ?_; refine vo_stBA rfl rfl ?_) | (refine vo_stO rfl rfl (by rfl) (by first | rfl | assumption) (by first | assumption | (simp; done) | (simp; omega) | omega) rfl ?_; skip)) | (refine vo_isCall ?_; first | (refine vo_isApp ?_; first | (refine vo_append0A rfl rfl rfl ?_; intro _ _ _ _) | (refine vo_appendA rfl rfl rfl ?_; intro _ _ _ _)) | (refine vo_isCopy ?_; refine vo_copyB rfl rfl rfl (by assumption) (by assumption) (by assumption) (by assumption) ?_) | refine vo_yield rfl rfl rfl rfl rfl ?_ | refine vo_callV rfl rfl rfl (vc_in rfl rfl ?_)) | refine vo_convRow rfl rfl ?_ | (refine vo_isBs ?_; refine vo_buildSlice rfl rfl rfl (by decide) (by repeat' (first | exact trivial | rfl | assumption | refine ⟨?_, ?_⟩ | (simp; done) | (simp; omega))) (by decide) rfl ?_; intro _) | (refine vo_buildSlice0 rfl ?_; intro _) | fail)
          rename_i gb
          refine ⟨.inr (sei _ _ _), ?_⟩
          refine va_one 11 (by kernel_rfl) rfl rfl ?_
          (first | (refine vo_box rfl rfl rfl ?_; intro _) | (refine vo_alloc rfl ?_; intro _) | (refine vo_isStore ?_; first | (refine vo_isPt0 rfl ?_; refine vo_stWA rfl rfl ?_) | (refine vo_isPt rfl ?_; refine vo_stBA rfl rfl ?_) | (refine vo_stO rfl rfl (by rfl) (by first | rfl | assumption) (by first | assumption | (simp; done) | (simp; omega) | omega) rfl ?_; skip)) | (refine vo_isCall ?_; first | (refine vo_isApp ?_; first | (refine vo_append0A rfl rfl rfl ?_; intro _ _ _ _) | (refine vo_appendA rfl rfl rfl ?_; intro _ _ _ _)) | (refine vo_isCopy ?_; refine vo_copyB rfl rfl rfl (by assumption) (by assumption) (by assumption) (by assumption) ?_) | refine vo_yield rfl rfl rfl rfl rfl ?_ | refine vo_callV rfl rfl rfl (vc_in rfl rfl ?_)) | refine vo_convRow rfl rfl ?_ | (refine vo_isBs ?_; refine vo_buildSlice rfl rfl rfl (by decide) (by repeat' (first | exact trivial | rfl | assumption | refine ⟨?_, ?_⟩ | (simp; done) | (simp; omega))) (by decide) rfl ?_; intro _) | (refine vo_buildSlice0 rfl ?_; intro _) | fail)
          refine ⟨.inr (sei _ _ _), ?_⟩
          refine va_takeA 12 rfl rfl rfl rfl ?_
          refine va_takeA 13 rfl rfl rfl rfl ?_
          refine va_done (by kernel_rfl) ?_
          repeat' (first | (refine go1 ?_; intros) | ((first | refine vl_caseG rfl rfl rfl rfl ?_ ?_ | refine v_cond rfl ?_ ?_) <;> (intro hb; (try simp only [hq1, hq2, hq3, hq4, ne_eq, hq5, hq6, hq7, hq8] at hb); try (exfalso; omega))) | fail)
          refine ⟨ownLs a5 c5 m5 :: tsA m5 :: ownTs (some ⟨gb, 0, none⟩) 1 [y] :: L, ?_, a5, c5, m5, some ⟨gb, 0, none⟩, 1, rfl, ?_, ho5, rfl⟩
          · rw [ownTs_one]
            exact sei _ _ _
          · show lls m5 = setC (lls ls) (fromT x) W
            rw [hm5, ← hlo]
        · (first | (refine vo_box rfl rfl rfl ?_; intro _) | (refine vo_alloc rfl ?_; intro _) | (refine vo_isStore ?_; first | (refine vo_isPt0 rfl ?_; refine vo_stWA rfl rfl ?_) | (refine vo_isPt rfl ?_; refine vo_stBA rfl rfl ?_) | (refine vo_stO rfl rfl (by rfl) (by first | rfl | assumption) (by first | assumption | (simp; done) | (simp; omega) | omega) rfl ?_; skip)) | (refine vo_isCall ?_; first | (refine vo_isApp ?_; first | (refine vo_append0A rfl rfl rfl ?_; intro _ _ _ _) | (refine vo_appendA rfl rfl rfl ?_; intro _ _ _ _)) | (refine vo_isCopy ?_; refine vo_copyB rfl rfl rfl (by assumption) (by assumption) (by assumption) (by assumption) ?_) | refine vo_yield rfl rfl rfl rfl rfl ?_ | refine vo_callV rfl rfl rfl (vc_in rfl rfl ?_)) | refine vo_convRow rfl rfl ?_ | (refine vo_isBs ?_; refine vo_buildSlice rfl rfl rfl (by decide) (by repeat' (first | exact trivial | rfl | assumption | refine ⟨?_, ?_⟩ | (simp; done) | (simp; omega))) (by decide) rfl ?_; intro _) | (refine vo_buildSlice0 rfl ?_; intro _) | fail)
          refine ⟨.inr (sei _ _ _), ?_⟩
          refine va_one 10 (by kernel_rfl) rfl rfl ?_
          (first | (refine vo_box rfl rfl rfl ?_; intro _) | (refine vo_alloc rfl ?_; intro _) | (refine vo_isStore ?_; first | (refine vo_isPt0 rfl ?_; refine vo_stWA rfl rfl ?_) | (refine vo_isPt rfl ?_; refine vo_stBA rfl rfl ?_) | (refine vo_stO rfl rfl (by rfl) (by first | rfl | assumption) (by first | assumption | (simp; done) | (simp; omega) | omega) rfl ?_; skip)) | (refine vo_isCall ?_; first | (refine vo_isApp ?_; first | (refine vo_append0A rfl rfl rfl ?_; intro _ _ _ _) | (refine vo_appendA rfl rfl rfl ?_; intro _ _ _ _)) | (refine vo_isCopy ?_; refine vo_copyB rfl rfl rfl (by assumption) (by assumption) (by assumption) (by assumption) ?_) | refine vo_yield rfl rfl rfl rfl rfl ?_ | refine vo_callV rfl rfl rfl (vc_in rfl rfl ?_)) | refine vo_convRow rfl rfl ?_ | (refine vo_isBs ?_; refine vo_buildSlice rfl rfl rfl (by decide) (by repeat' (first | exact trivial | rfl | assumption | refine ⟨?_, ?_⟩ | (simp; done) | (simp; omega))) (by decide) rfl ?_; intro _) | (refine vo_buildSlice0 rfl ?_; intro _) | fail)
          rename_i gb
          refine ⟨.inr (sei _ _ _), ?_⟩
          refine va_takeA 12 rfl rfl rfl rfl ?_
          refine va_takeA 13 rfl rfl rfl rfl ?_
          refine va_done (by kernel_rfl) ?_
          repeat' (first | (refine go1 ?_; intros) | ((first | refine vl_caseG rfl rfl rfl rfl ?_ ?_ | refine v_cond rfl ?_ ?_) <;> (intro hb; (try simp only [hq1, hq2, hq3, hq4, ne_eq, hq5, hq6, hq7, hq8] at hb); try (exfalso; omega))) | fail)
          refine ⟨ownLs a5 c5 m5 :: tsA m5 :: ownTs (some ⟨gb, 0, none⟩) 1 [y] :: L, ?_, a5, c5, m5, some ⟨gb, 0, none⟩, 1, rfl, ?_, ho5, rfl⟩
          · rw [ownTs_one]
            exact sei _ _ _
          · show lls m5 = setC (lls ls) (fromT x) W
            rw [hm5, ← hlo]
      · (first | (refine vo_box rfl rfl rfl ?_; intro _) | (refine vo_alloc rfl ?_; intro _) | (refine vo_isStore ?_; first | (refine vo_isPt0 rfl ?_; refine vo_stWA rfl rfl ?_) | (refine vo_isPt rfl ?_; refine vo_stBA rfl rfl ?_) | (refine vo_stO rfl rfl (by rfl) (by first | rfl | assumption) (by first | assumption | (simp; done) | (simp; omega) | omega) rfl ?_; skip)) | (refine vo_isCall ?_; first | (refine vo_isApp ?_; first | (refine vo_append0A rfl rfl rfl ?_; intro _ _ _ _) | (refine vo_appendA rfl rfl rfl ?_; intro _ _ _ _)) | (refine vo_isCopy ?_; refine vo_copyB rfl rfl rfl (by assumption) (by assumption) (by assumption) (by assumption) ?_) | refine vo_yield rfl rfl rfl rfl rfl ?_ | refine vo_callV rfl rfl rfl (vc_in rfl rfl ?_)) | refine vo_convRow rfl rfl ?_ | (refine vo_isBs ?_; refine vo_buildSlice rfl rfl rfl (by decide) (by repeat' (first | exact trivial | rfl | assumption | refine ⟨?_, ?_⟩ | (simp; done) | (simp; omega))) (by decide) rfl ?_; intro _) | (refine vo_buildSlice0 rfl ?_; intro _) | fail)
        rename_i gb
        refine ⟨.inr (sei _ _ _), ?_⟩
        refine va_one 4 (by kernel_rfl) rfl rfl ?_
        first | refine vo_call rfl rfl ?_ | refine vo_callV rfl rfl rfl ?_
        refine vc_mono (rwithS_vc w0 _ a c ls (Ln.mk l.own a2 c2 W) rfl h hmc ⟨hlok.own, hWok⟩ (by omega)) ?_
        rintro v L' ⟨a5, c5, m5, rfl, hm5, ho5, rfl⟩
        refine ⟨.inr (sei _ _ _), ?_⟩
        refine va_one 11 (by kernel_rfl) rfl rfl ?_
        (first | (refine vo_box rfl rfl rfl ?_; intro _) | (refine vo_alloc rfl ?_; intro _) | (refine vo_isStore ?_; first | (refine vo_isPt0 rfl ?_; refine vo_stWA rfl rfl ?_) | (refine vo_isPt rfl ?_; refine vo_stBA rfl rfl ?_) | (refine vo_stO rfl rfl (by rfl) (by first | rfl | assumption) (by first | assumption | (simp; done) | (simp; omega) | omega) rfl ?_; skip)) | (refine vo_isCall ?_; first | (refine vo_isApp ?_; first | (refine vo_append0A rfl rfl rfl ?_; intro _ _ _ _) | (refine vo_appendA rfl rfl rfl ?_; intro _ _ _ _)) | (refine vo_isCopy ?_; refine vo_copyB rfl rfl rfl (by assumption) (by assumption) (by assumption) (by assumption) ?_) | refine vo_yield rfl rfl rfl rfl rfl ?_ | refine vo_callV rfl rfl rfl (vc_in rfl rfl ?_)) | refine vo_convRow rfl rfl ?_ | (refine vo_isBs ?_; refine vo_buildSlice rfl rfl rfl (by decide) (by repeat' (first | exact trivial | rfl | assumption | refine ⟨?_, ?_⟩ | (simp; done) | (simp; omega))) (by decide) rfl ?_; intro _) | (refine vo_buildSlice0 rfl ?_; intro _) | fail)
        refine ⟨.inr (sei _ _ _), ?_⟩
        refine va_takeA 12 rfl rfl rfl rfl ?_
        refine va_takeA 13 rfl rfl rfl rfl ?_
        refine va_done (by kernel_rfl) ?_
        repeat' (first | (refine go1 ?_; intros) | ((first | refine vl_caseG rfl rfl rfl rfl ?_ ?_ | refine v_cond rfl ?_ ?_) <;> (intro hb; (try simp only [hq1, hq2, hq3, hq4, ne_eq, hq5, hq6, hq7, hq8] at hb); try (exfalso; omega))) | fail)
        refine ⟨ownLs a5 c5 m5 :: tsA m5 :: ownTs (some ⟨gb, 0, none⟩) 1 [y] :: L, ?_, a5, c5, m5, some ⟨gb, 0, none⟩, 1, rfl, ?_, ho5, rfl⟩
        · rw [ownTs_one]
          exact sei _ _ _
        · show lls m5 = setC (lls ls) (fromT x) W
          rw [hm5, ← hlo]
    · (first | (refine vo_box rfl rfl rfl ?_; intro _) | (refine vo_alloc rfl ?_; intro _) | (refine vo_isStore ?_; first | (refine vo_isPt0 rfl ?_; refine vo_stWA rfl rfl ?_) | (refine vo_isPt rfl ?_; refine vo_stBA rfl rfl ?_) | (refine vo_stO rfl rfl (by rfl) (by first | rfl | assumption) (by first | assumption | (simp; done) | (simp; omega) | omega) rfl ?_; skip)) | (refine vo_isCall ?_; first | (refine vo_isApp ?_; first | (refine vo_append0A rfl rfl rfl ?_; intro _ _ _ _) | (refine vo_appendA rfl rfl rfl ?_; intro _ _ _ _)) | (refine vo_isCopy ?_; refine vo_copyB rfl rfl rfl (by assumption) (by assumption) (by assumption) (by assumption) ?_) | refine vo_yield rfl rfl rfl rfl rfl ?_ | refine vo_callV rfl rfl rfl (vc_in rfl rfl ?_)) | refine vo_convRow rfl rfl ?_ | (refine vo_isBs ?_; refine vo_buildSlice rfl rfl rfl (by decide) (by repeat' (first | exact trivial | rfl | assumption | refine ⟨?_, ?_⟩ | (simp; done) | (simp; omega))) (by decide) rfl ?_; intro _) | (refine vo_buildSlice0 rfl ?_; intro _) | fail)
      rename_i gb
      refine ⟨.inr (sei _ _ _), ?_⟩
      refine va_one 3 (by kernel_rfl) rfl rfl ?_
      first | refine vo_call rfl rfl ?_ | refine vo_callV rfl rfl rfl ?_
      rw [hlc, hxc]
      refine vc_mono (rwith_vc w0 _ l hlok hup (by omega) x hx) ?_
      rw [hW, ← hlc, ← hxc]
      rintro v L' ⟨a2, c2, rfl, rfl⟩
      refine ⟨.inr (sei _ _ _), ?_⟩
      refine va_one 4 (by kernel_rfl) rfl rfl ?_
      first | refine vo_call rfl rfl ?_ | refine vo_callV rfl rfl rfl ?_
      refine vc_mono (rwithS_vc w0 _ a c ls (Ln.mk l.own a2 c2 W) rfl h hmc ⟨hlok.own, hWok⟩ (by omega)) ?_
      rintro v L' ⟨a5, c5, m5, rfl, hm5, ho5, rfl⟩
      refine ⟨.inr (sei _ _ _), ?_⟩
      refine va_one 11 (by kernel_rfl) rfl rfl ?_
      (first | (refine vo_box rfl rfl rfl ?_; intro _) | (refine vo_alloc rfl ?_; intro _) | (refine vo_isStore ?_; first | (refine vo_isPt0 rfl ?_; refine vo_stWA rfl rfl ?_) | (refine vo_isPt rfl ?_; refine vo_stBA rfl rfl ?_) | (refine vo_stO rfl rfl (by rfl) (by first | rfl | assumption) (by first | assumption | (simp; done) | (simp; omega) | omega) rfl ?_; skip)) | (refine vo_isCall ?_; first | (refine vo_isApp ?_; first | (refine vo_append0A rfl rfl rfl ?_; intro _ _ _ _) | (refine vo_appendA rfl rfl rfl ?_; intro _ _ _ _)) | (refine vo_isCopy ?_; refine vo_copyB rfl rfl rfl (by assumption) (by assumption) (by assumption) (by assumption) ?_) | refine vo_yield rfl rfl rfl rfl rfl ?_ | refine vo_callV rfl rfl rfl (vc_in rfl rfl ?_)) | refine vo_convRow rfl rfl ?_ | (refine vo_isBs ?_; refine vo_buildSlice rfl rfl rfl (by decide) (by repeat' (first | exact trivial | rfl | assumption | refine ⟨?_, ?_⟩ | (simp; done) | (simp; omega))) (by decide) rfl ?_; intro _) | (refine vo_buildSlice0 rfl ?_; intro _) | fail)
      refine ⟨.inr (sei _ _ _), ?_⟩
      refine va_takeA 12 rfl rfl rfl rfl ?_
      refine va_takeA 13 rfl rfl rfl rfl ?_
      refine va_done (by kernel_rfl) ?_
      repeat' (first | (refine go1 ?_; intros) | ((first | refine vl_caseG rfl rfl rfl rfl ?_ ?_ | refine v_cond rfl ?_ ?_) <;> (intro hb; (try simp only [hq1, hq2, hq3, hq4, ne_eq, hq5, hq6, hq7, hq8] at hb); try (exfalso; omega))) | fail)
      refine ⟨ownLs a5 c5 m5 :: tsA m5 :: ownTs (some ⟨gb, 0, none⟩) 1 [y] :: L, ?_, a5, c5, m5, some ⟨gb, 0, none⟩, 1, rfl, ?_, ho5, rfl⟩
      · rw [ownTs_one]
        exact sei _ _ _
      · show lls m5 = setC (lls ls) (fromT x) W
        rw [hm5, ← hlo]
end Go.Proofs.YtccbcdhpnkbkgaaDoor
