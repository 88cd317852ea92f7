/-
  Pools: the chapter's first examples.
-/
import Derived.Test.YtcpndfffdbogbaaGreatDoorGPA
import Derived.Test.YtcpndfffdbogbaaGreatDoorGZA
set_option linter.unusedVariables false
set_option linter.unusedSimpArgs false
namespace Go.Proofs.YtcpndfffdbogbaaGreatDoor
open Go Go.RowKit
set_option linter.unusedVariables false
set_option linter.unusedSimpArgs false
set_option linter.unusedSectionVars false
open Classical

def d31 : List UInt8 := List.replicate 31 0 ++ [7]
section
variable {P : Program} {w0 : World} {n : Nat} {ds : List Deferred} {fr : Fr} {L : List Asn} {dst : Option Nat} {ty : TypeId} {pos : String} {after : Array Edge} {gd : Option (Nat × Bool)}
theorem vq_dig31 {t e : TypeId} {bytes ebytes : Nat} {ez : List Value} {x : Operand} (hx : evA fr x = some (.int .u8 7)) [ht : TyI P t true 32 bytes (bvs (List.replicate 32 0))] [hf : ArI P t e 32 false 1 ebytes ez] : VQ P w0 n ⟨dst, .build t #[(31, x)], ty, pos, after, gd⟩ (.agg (bvs d31).toArray) ds fr L :=
  vq_arrD (vs := [(31, [.int .u8 7])]) (by simp [evP, hx, Value.cells]) (by simp [okS]) (by rfl)
end
/-- The examples' transaction. -/
def aT : Tx := ⟨z32, z32, 0, 0, 1, z32⟩
def aX : Tx := signed aT
theorem aT_ok : aT.ok := ⟨rfl, rfl, by decide, by decide, by decide, rfl⟩
theorem aX_ok : aX.ok := Tx.ok.signed aT_ok
theorem aX_sub : submitC [] 4 0 aX = (setC [] (fromT aX) (withT [] aX), [], 0) := by
  unfold submitC
  rw [if_pos (show aX.sign = sgn aX from signed_sign aT), if_neg (by decide), if_neg (by decide), show lineC [] (fromT aX) = [] from rfl, show atT [] aX.nonce = none from rfl]
  dsimp only
  rw [if_neg (by decide), if_pos (show (cntC [] : Int) < 4 by decide)]
theorem aX_cnt : cntC (submitC [] 4 0 aX).1 = 1 := by
  have h := submitC_kept (cap := 4) (nonce := 0) (x := aX) may_nil k2_nil
  rw [aX_sub] at h ⊢
  have := (h rfl).cnt
  have e : cntC [] = 0 := rfl
  rw [e] at this
  exact this
theorem shl_rep (n : Nat) : shl (List.replicate n shE) = List.replicate n [] := by
  show List.map _ _ = _
  rw [List.map_replicate]
  rfl
theorem al_sub : (submitO (List.replicate 2 []) [] 0 4 aX).2 = ([], 0) ∧ cntO (submitO (List.replicate 2 []) [] 0 4 aX).1 = 1 ∧ (submitO (List.replicate 2 []) [] 0 4 aX).1.length = 2 := by
  have hm : MayO (List.replicate 2 []) := mayO_zero (by decide) (by decide)
  have hi := atN_lt (fromT aX) hm.lo
  have hic := atN_cast (fromT aX) hm.lo
  have e : submitO (List.replicate 2 []) [] 0 4 aX = ((List.replicate 2 []).set (atN (fromT aX) (List.replicate 2 ([] : List LC)).length) (submitC [] 4 0 aX).1, [], 0) := by
    have e1 : atC (List.replicate 2 []) (atN (fromT aX) (List.replicate 2 ([] : List LC)).length) = [] := by
      rw [atC_eq hi, List.getElem_replicate]
    have e2 : submitO (List.replicate 2 []) [] 0 4 aX = turnO (List.replicate 2 []) (atP (fromT aX) (List.replicate 2 ([] : List LC)).length) (fun i => submitS (atC (List.replicate 2 []) i) 4 (nonceA [] 0 (fromT aX)) aX) [] := if_pos ⟨hm, st0⟩
    rw [e2, ← hic, turnO_in hi (Q := submitC [] 4 0 aX) (by rw [e1, acc0, submitS_of may_nil]), if_pos (by rw [aX_sub]), aX_sub]
  rw [e]
  refine ⟨rfl, ?_, by rw [List.length_set, List.length_replicate]⟩
  have h := sum_set hi (submitC [] 4 0 aX).1
  rw [List.getElem_replicate, aX_cnt] at h
  have e2 : cntO (List.replicate 2 []) = 0 := rfl
  have e3 : cntC [] = 0 := rfl
  dsimp only
  omega
theorem sh_rep_ok (n : Nat) (hn : n ≤ 1000) : SsOk (List.replicate n shE) := ⟨fun s hs => by rw [List.eq_of_mem_replicate hs]; exact LsOk.nil, by rw [List.length_replicate]; omega⟩
theorem cntS_rep (n : Nat) : cntS (List.replicate n shE) = 0 := by
  unfold cntS
  rw [List.map_replicate]
  show (List.replicate n 0).sum = 0
  simp
set_option maxRecDepth 100000 in
theorem fill_one : fillS [(0, 32), (32, 32), (64, 1), (65, 1), (66, 1), (67, 32)] (bvs (List.replicate 32 0) ++ (bvs (List.replicate 32 0) ++ (.int .u64 0 :: (.int .u64 0 :: (.int .u64 0 :: bvs (List.replicate 32 0)))))) [(4, [.int .u64 1])] = aT.cells := by rfl
set_option maxRecDepth 100000 in
set_option maxHeartbeats 4000000 in
theorem lalive21_vc (w0 : World) (L : List Asn) [hK : RdA w0 (some ⟨0, 0, none⟩) (wds K64)] :
    VC Tryz.prog w0 25 [] L fun v L' => v = .bool true ∧ L' = L := by
  have l1 := Tx.len aT_ok
  have l2 := Tx.len aX_ok
  haveI o1 : OC aT.cells := oc_tx _
  haveI o2 : OC aX.cells := oc_tx _
  haveI rn : ∀ M, RdNs w0 M [] := fun M => rdNs0 w0 M
  haveI rz : ∀ M, RdC w0 M none (ndc []) := fun M => rdC_nil _ _ _
  have hd : d31.length = 32 := by simp [d31]
  obtain ⟨s1, s2, s3⟩ := al_sub
  refine vc_ent ?_
  refine vc_in rfl rfl ?_
  repeat' (first | (refine goB ?_; intros) | (refine goCC ?_ ?_ <;> (intro hb; (try simp only [hSQ] at hb); try (exfalso; omega))) | fail)
  refine vl_q rfl rfl rfl rfl (vq_dig31 rfl) ?_
  repeat' (first | (refine goB ?_; intros) | (refine goCC ?_ ?_ <;> (intro hb; (try simp only [hSQ] at hb); try (exfalso; omega))) | fail)
  refine vl_o rfl (vo_call rfl rfl ?_)
  refine vc_mono (pat_vc w0 _ d31 4 hd) ?_
  rintro v L' ⟨rfl, rfl⟩
  rw [if_pos (by decide), show atP d31 4 = 3 from rfl]
  repeat' (first | (refine goB ?_; intros) | (refine goCC ?_ ?_ <;> (intro hb; (try simp only [hSQ] at hb); try (exfalso; omega))) | fail)
  refine vl_o rfl (vo_call rfl rfl ?_)
  refine vc_mono (pnew_vc w0 _ 2) ?_
  rintro v L' ⟨a, c, ss, rfl, hss, rfl⟩
  rw [if_pos (by decide), show (2 : Int).toNat = 2 from rfl] at hss
  subst hss
  rw [if_pos (by decide), List.length_replicate]
  repeat' (first | (refine goB ?_; intros) | (refine goCC ?_ ?_ <;> (intro hb; (try simp only [hSQ] at hb); try (exfalso; omega))) | fail)
  refine vl_q rfl rfl rfl rfl (vq_buildP (cs := aT.cells) rfl (by simp [okS, Value.cells]) fill_one) ?_
  obtain ⟨tc, htc⟩ : ∃ tc, tc = aT.cells := ⟨_, rfl⟩
  rw [← htc] at l1 o1 ⊢
  repeat' (first | (refine goB ?_; intros) | (refine goCC ?_ ?_ <;> (intro hb; (try simp only [hSQ] at hb); try (exfalso; omega))) | fail)
  refine vl_o rfl (vo_call rfl rfl ?_)
  rw [htc]
  refine vc_mono (txSign_vc w0 _ aT aT_ok) ?_
  rintro v L' ⟨rfl, rfl⟩
  rw [show signed aT = aX from rfl]
  obtain ⟨xc, hxc⟩ : ∃ xc, xc = aX.cells := ⟨_, rfl⟩
  rw [← hxc] at l2 o2 ⊢
  repeat' (first | (refine go1 ?_; intros) | (refine goCC ?_ ?_ <;> (intro hb; (try simp only [hSQ] at hb); try (exfalso; omega))) | fail)
  refine vl_o rfl (vo_call rfl rfl ?_)
  rw [hxc]
  refine vc_mono (psubmit_vc w0 _ a c (List.replicate 2 shE) 4 none 0 [] 0 aX rfl rfl (sh_rep_ok 2 (by decide)) (fun s hs => by rw [List.eq_of_mem_replicate hs]; decide) nsOk0 aX_ok) ?_
  rw [shl_rep]
  rintro v L' ⟨a2, c2, ts, b2, d2, rfl, hts, hto, rfl⟩
  rw [← hts] at s2 s3
  rw [cntO_shl] at s2
  rw [shl_length] at s3
  rw [s1]
  dsimp only
  repeat' (first | (refine go1 ?_; intros) | (refine goCC ?_ ?_ <;> (intro hb; (try simp only [hSQ] at hb); try (exfalso; omega))) | fail)
  all_goals first | (exfalso; omega) | skip
  refine vl_o rfl (vo_call rfl rfl ?_)
  refine vc_mono (pcount_vc w0 _ a2 c2 ts rfl hto (by omega)) ?_
  rintro v L' ⟨rfl, rfl⟩
  rw [s2]
  repeat' (first | (refine go1 ?_; intros) | (refine goCC ?_ ?_ <;> (intro hb; (try simp only [hSQ] at hb); try (exfalso; omega))) | fail)
  all_goals first | (exfalso; omega) | skip
  refine vl_o rfl (vo_call rfl rfl ?_)
  refine vc_mono (pcount_vc w0 _ a c (List.replicate 2 shE) rfl (sh_rep_ok 2 (by decide)) (by rw [List.length_replicate]; decide)) ?_
  rintro v L' ⟨rfl, rfl⟩
  rw [cntS_rep]
  repeat' (first | (refine go1 ?_; intros) | (refine goCC ?_ ?_ <;> (intro hb; (try simp only [hSQ] at hb); try (exfalso; omega))) | fail)
  exact ⟨L, sei _ _ _, rfl, rfl⟩
end Go.Proofs.YtcpndfffdbogbaaGreatDoor
