/-
  Shards: the chapter's first examples.
-/
import Derived.Test.YtccbcdhpnkbkgaaDoorShdJ
import Derived.Test.YtccbcdhpnkbkgaaDoorVStates
import Derived.Test.YtccbcdhpnkbkgaaDoorGS
set_option linter.unusedVariables false
set_option linter.unusedSimpArgs false
namespace Go.Proofs.YtccbcdhpnkbkgaaDoor
open Go Go.RowKit
set_option linter.unusedVariables false
set_option linter.unusedSimpArgs false
set_option linter.unusedSectionVars false

def kF (p : UInt8) : List UInt8 := sha (tagB 3 [dig1 p])
set_option maxRecDepth 100000 in
theorem kF_ne : kF 1 ≠ kF 2 := by decide +kernel
open Classical

def oneF (p : UInt8) (n f : Nat) : Tx := signed ⟨dig1 p, z32, n, 0, f, z32⟩
theorem oneF_raw (p : UInt8) {n f : Nat} (hn : n < 18446744073709551616) (hf : f < 18446744073709551616) : (Tx.mk (dig1 p) z32 n 0 f z32).ok := ⟨by simp [dig1], rfl, hn, (show (0 : Nat) < 18446744073709551616 by decide), hf, rfl⟩
theorem oneF_ok (p : UInt8) {n f : Nat} (hn : n < 18446744073709551616) (hf : f < 18446744073709551616) : (oneF p n f).ok := Tx.ok.signed (oneF_raw p hn hf)
theorem signed_sign (x : Tx) : (signed x).sign = sgn (signed x) := (sgn_signed x).symm
theorem oneF_sign (p : UInt8) (n f : Nat) : (oneF p n f).sign = sgn (oneF p n f) := signed_sign _
def x1 : Tx := oneF 1 0 5
def x2 : Tx := oneF 1 1 5
theorem x1_ok : x1.ok := oneF_ok 1 (by decide) (by decide)
theorem x2_ok : x2.ok := oneF_ok 1 (by decide) (by decide)
def cs1 : List LC := [(kF 1, [x1])]
def cs2 : List LC := [(kF 1, [x1, x2])]
theorem may_nil : MayC [] := ⟨fun _ h => (by cases h), fun _ h => (by cases h), List.Pairwise.nil⟩
theorem k2_nil : K2 [] := fun _ h => (by cases h)
theorem setC_one (o : List UInt8) (xs ys : List Tx) : setC [(o, xs)] o ys = ownC o ys := by
  have := setC_mid (P := []) (r := []) (c := (o, xs)) (List.pairwise_singleton _ _) ys
  simpa using this
theorem lineC_one (o : List UInt8) (xs : List Tx) : lineC [(o, xs)] o = xs := lineC_mem (List.pairwise_singleton _ _) (by simp)
theorem sub_x1 (cap : Int) (hc : 0 < cap) : submitC [] cap 0 x1 = (cs1, [], 0) := by
  unfold submitC
  rw [if_pos (show x1.sign = sgn x1 from oneF_sign 1 0 5), if_neg (by decide), if_neg (by decide), show fromT x1 = kF 1 from rfl, show lineC [] (kF 1) = [] from rfl, show atT [] x1.nonce = none from rfl]
  dsimp only
  rw [if_neg (by decide), if_pos (show (cntC [] : Int) < cap from hc)]
  rfl
theorem cs1_may : MayC cs1 ∧ K2 cs1 := by
  have h := submitC_kept (cap := 2) (nonce := 0) (x := x1) may_nil k2_nil
  rw [sub_x1 2 (by decide)] at h
  exact ⟨(h rfl).may, (h rfl).k2⟩
theorem sub_x2 (cap : Int) (hc : 1 < cap) : submitC cs1 cap 0 x2 = (cs2, [], 0) := by
  unfold submitC
  rw [if_pos (show x2.sign = sgn x2 from oneF_sign 1 1 5), if_neg (by decide), if_neg (by decide), show fromT x2 = kF 1 from rfl, show lineC cs1 (kF 1) = [x1] from lineC_one _ _, show atT [x1] x2.nonce = none from rfl]
  dsimp only
  rw [if_neg (by decide), if_pos (show (cntC cs1 : Int) < cap from hc), show setC cs1 (kF 1) (withT [x1] x2) = ownC (kF 1) (withT [x1] x2) from setC_one _ _ _]
  rfl
theorem cs2_may : MayC cs2 ∧ K2 cs2 := by
  have h := submitC_kept (cap := 2) (nonce := 0) (x := x2) cs1_may.1 cs1_may.2
  rw [sub_x2 2 (by decide)] at h
  exact ⟨(h rfl).may, (h rfl).k2⟩
theorem line_y : lineC cs2 (kF 2) = [] := lineC_none (fun j hj e => by
  have : j = 0 := by simp [cs2] at hj; omega
  subst this
  exact kF_ne e)
theorem worst_y (f : Nat) : worstC cs2 (kF 2) f = if 5 < f then 0 else -1 := by
  show (if kF 1 ≠ kF 2 ∧ lastFee [x1, x2] < f then (0 : Int) else -1) = _
  have : lastFee [x1, x2] = 5 := rfl
  rw [this]
  by_cases h : 5 < f
  · rw [if_pos ⟨kF_ne, h⟩, if_pos h]
  · rw [if_neg (fun e => h e.2), if_neg h]
theorem sub_y5 : submitC cs2 2 0 (oneF 2 0 5) = ([], [], 9) := by
  unfold submitC
  rw [if_pos (oneF_sign 2 0 5), if_neg (by decide), if_neg (by decide), show fromT (oneF 2 0 5) = kF 2 from rfl, line_y, show atT [] (oneF 2 0 5).nonce = none from rfl]
  dsimp only
  rw [if_neg (by decide), if_neg (show ¬ (cntC cs2 : Int) < 2 by decide), show (oneF 2 0 5).fee = 5 from rfl, worst_y, if_neg (by decide)]
  rfl
/-- A greater fee: the last of the other sender's goes. -/
def y6 : Tx := oneF 2 0 6
noncomputable def cs3 : List LC := setC (setC cs2 (kF 1) [x1]) (kF 2) (withT [] y6)
theorem sub_y6 : submitC cs2 2 0 y6 = (cs3, [x2], 0) := by
  unfold submitC
  rw [if_pos (show y6.sign = sgn y6 from oneF_sign 2 0 6), if_neg (by decide), if_neg (by decide), show fromT y6 = kF 2 from rfl, line_y, show atT [] y6.nonce = none from rfl]
  dsimp only
  rw [if_neg (by decide), if_neg (show ¬ (cntC cs2 : Int) < 2 by decide), show y6.fee = 6 from rfl, worst_y, if_pos (by decide)]
  rfl
theorem cs3_cnt : cntC cs3 = 2 := by
  have h := submitC_kept (cap := 2) (nonce := 0) (x := y6) cs2_may.1 cs2_may.2
  rw [sub_y6] at h
  have := (h rfl).cnt
  have e : cntC cs2 = 2 := rfl
  rw [e] at this
  simpa using this
theorem submitS_of {cs : List LC} (h : MayC cs) (cap : Int) (nonce : Nat) (x : Tx) : submitS cs cap nonce x = submitC cs cap nonce x := if_pos h
theorem fill_tx {D : List UInt8} (hD : D.length = 32) (n f : Nat) : fillS [(0, 32), (32, 32), (64, 1), (65, 1), (66, 1), (67, 32)] (bvs (List.replicate 32 0) ++ (bvs (List.replicate 32 0) ++ (.int .u64 0 :: (.int .u64 0 :: (.int .u64 0 :: bvs (List.replicate 32 0)))))) [(0, bvs D), (2, [.int .u64 n]), (4, [.int .u64 f])] = (Tx.mk D z32 n 0 f z32).cells := by
  show splice (splice (splice _ 0 (bvs D)) 64 [_]) 66 [_] = _
  have e0 := splice_mid [] (bvs (List.replicate 32 0)) (bvs (List.replicate 32 0) ++ (.int .u64 0 :: (.int .u64 0 :: (.int .u64 0 :: bvs (List.replicate 32 0))))) (bvs D) 0 rfl (by simp [hD])
  rw [List.nil_append, List.nil_append] at e0
  rw [e0]
  have e1 := splice_mid (bvs D ++ bvs (List.replicate 32 0)) [.int .u64 0] (.int .u64 0 :: (.int .u64 0 :: bvs (List.replicate 32 0))) [.int .u64 n] 64 (by simp [hD]) rfl
  have e2 := splice_mid (bvs D ++ bvs (List.replicate 32 0) ++ [.int .u64 n, .int .u64 0]) [.int .u64 0] (bvs (List.replicate 32 0)) [.int .u64 f] 66 (by simp [hD]) rfl
  simp only [List.append_assoc, List.cons_append, List.nil_append, List.singleton_append] at e1 e2 ⊢
  rw [e1, e2]
  rfl
set_option maxHeartbeats 1000000 in
theorem lone20_vc (w0 : World) (L : List Asn) (p : UInt8) (n f : Nat) (hn : n < 18446744073709551616) (hf : f < 18446744073709551616) [hK : RdA w0 (some ⟨0, 0, none⟩) (wds K64)] {pn : Int} (hp : pn = (p.toNat : Nat)) {nn ff : Int} (hnn : nn = (n : Int)) (hff : ff = (f : Int)) :
    VC Tryd.prog w0 31 [.int .u8 pn, .int .u64 nn, .int .u64 ff] L fun v L' => v = .agg (oneF p n f).cells.toArray ∧ L' = L := by
  subst hp hnn hff
  have hok := oneF_raw p hn hf
  have hl := Tx.len hok
  have hl2 := Tx.len (oneF_ok p hn hf)
  have hd1 : (dig1 p).length = 32 := by simp [dig1]
  refine vc_ent ?_
  refine vc_in rfl rfl ?_
  repeat' (first | (refine goB ?_; intros) | ((first | refine vl_caseG rfl rfl rfl rfl ?_ ?_ | refine v_cond rfl ?_ ?_) <;> (intro hb; (try simp only [hq1, hq2, hq3, hq4, ne_eq, hq5, hq6, hq7, hq8] at hb); try (exfalso; omega))) | fail)
  refine vl_q rfl rfl rfl rfl (vq_dig1 (c := p) rfl) ?_
  generalize hdp : dig1 p = D at *
  repeat' (first | (refine goB ?_; intros) | ((first | refine vl_caseG rfl rfl rfl rfl ?_ ?_ | refine v_cond rfl ?_ ?_) <;> (intro hb; (try simp only [hq1, hq2, hq3, hq4, ne_eq, hq5, hq6, hq7, hq8] at hb); try (exfalso; omega))) | fail)
  refine vl_q rfl rfl rfl rfl (vq_buildP (cs := (Tx.mk D z32 n 0 f z32).cells) rfl (by simp [okS, Value.cells, hd1]) (fill_tx hd1 n f)) ?_
  generalize hT : Tx.mk D z32 n 0 f z32 = T at *
  repeat' (first | (refine go1 ?_; intros) | ((first | refine vl_caseG rfl rfl rfl rfl ?_ ?_ | refine v_cond rfl ?_ ?_) <;> (intro hb; (try simp only [hq1, hq2, hq3, hq4, ne_eq, hq5, hq6, hq7, hq8] at hb); try (exfalso; omega))) | fail)
  refine vl_o rfl (vo_call rfl rfl ?_)
  refine vc_mono (txSign_vc w0 _ T hok) ?_
  rintro v L' ⟨rfl, rfl⟩
  have hT2 : (signed T) = oneF p n f := by rw [← hT, ← hdp]; rfl
  rw [hT2]
  generalize oneF p n f = y at *
  repeat' (first | (refine go1 ?_; intros) | ((first | refine vl_caseG rfl rfl rfl rfl ?_ ?_ | refine v_cond rfl ?_ ?_) <;> (intro hb; (try simp only [hq1, hq2, hq3, hq4, ne_eq, hq5, hq6, hq7, hq8] at hb); try (exfalso; omega))) | fail)
  exact ⟨L, sei _ _ _, rfl, rfl⟩
end Go.Proofs.YtccbcdhpnkbkgaaDoor
